/- hand.Node: of any raw node some node. What it leans on. -/
import Derived.Test.YtilifniflpbbkaaDoorHr
import Derived.Deep.RegionHeld3
import Derived.Deep.QuietTactic
import Derived.BigQuiet
import Derived.Deep.DeepCutAuto
import Derived.Deep.CutBlock
import Derived.BigGuardPart
namespace Go.Proofs.YtilifniflpbbkaaDoor
open Go.RowKit On
/-- the table of signs -/
def Bins (w : World) : Prop := ∀ k : Nat, k < 12 → ∃ T, w.cell? ⟨0, k, none⟩ = some (.int .i64 T)
theorem Bins.keep {w w' : World} (h : Bins w) (hb : Below w.heap.size w w') : Bins w' := fun k hk => by
  obtain ⟨T, hT⟩ := h k hk
  exact ⟨T, by rw [hb.cell (World.block_lt_of_cell? _ _ hT)]; exact hT⟩
/-- a slice's block is a new one -/
def FreshA (N : Nat) (A : Option Addr) : Prop := ∀ a, A = some a → N ≤ a.block
/-- what its slice holds, in a world; and it is a new one -/
def Nd.okF (N : Nat) (w : World) : Nd → Prop
  | .none => False
  | .const _ n => -2147483648 ≤ n ∧ n ≤ 2147483647
  | .serve _ _ _ _ A c xs => (Ints .i64 w (.slice A xs.length c) xs ∧ xs.length ≤ 8) ∧ FreshA N A
  | .call _ _ A c xs => (Ints .i64 w (.slice A xs.length c) xs ∧ xs.length ≤ 8) ∧ FreshA N A
  | .callx _ _ A c xs => (Ints .i64 w (.slice A xs.length c) xs ∧ xs.length ≤ 8) ∧ FreshA N A
  | _ => True
theorem Nd.okF.ok {N : Nat} {w : World} {n : Nd} (h : n.okF N w) : n.ok w := by
  cases n <;> first | exact True.intro | exact h | exact h.1 | exact h.elim
/-- some node is handed back -/
def NodeAt (w : World) (e : Ending) (w' : World) : Prop := ∃ n : Nd, e = .returned n.val ∧ n.okF w.heap.size w' ∧ Below w.heap.size w w'
/-- a row of integers of the call's own -/
def OwnI (B : Nat) (w : World) (v : Value) (xs : List Int) : Prop := w.ownsRow B 3 1 v xs.length (xs.map (Value.int .i64))
theorem OwnI.snoc {B : Nat} {w : World} {v : Value} {xs : List Int} {x : Int} {n : Nat} (h : w.ownsRow B 3 1 v n (xs.map (Value.int .i64) ++ [.int .i64 x])) : OwnI B w v (xs ++ [x]) ∧ n = (xs ++ [x]).length := by
  have h' : w.ownsRow B 3 1 v n ((xs ++ [x]).map (Value.int .i64)) := by rw [List.map_append]; exact h
  have := (Ints.own h').2
  subst this
  exact ⟨h', rfl⟩
theorem OwnI.base {B : Nat} {w : World} {v : Value} {xs : List Int} (h : OwnI B w v xs) : ∀ k, v.ownBlock = some k → B ≤ k := by
  intro k hk
  obtain ⟨A, c, rfl, ⟨rfl, _⟩ | ⟨g, cur, rfl, hb, _⟩⟩ := own_slice h
  · simp [Value.ownBlock] at hk
  · simp [Value.ownBlock] at hk; omega
theorem OwnI.fresh {B N : Nat} {w : World} {A : Option Addr} {n c : Nat} {xs : List Int} (h : OwnI B w (.slice A n c) xs) (hN : N ≤ B) : FreshA N A := by
  rintro a rfl
  exact Nat.le_trans hN (h.base a.block rfl)
theorem Ints.take {q : IntKind} {w : World} {A : Option Addr} {c : Nat} {xs : List Int} (h : Ints q w (.slice A xs.length c) xs) (m : Nat) : Ints q w (.slice A (xs.take m).length c) (xs.take m) := by
  obtain ⟨A', c', e, h0, h2⟩ := h
  injection e with e1 _ e3
  subst e1; subst e3
  exact ⟨_, _, rfl, h0, fun k x hx => by
    rw [List.getElem?_take] at hx
    split at hx
    · exact h2 k x hx
    · cases hx⟩
/-- the two variables that Node has in memory -/
structure Boxes (N : Nat) (r : Array Value) (regs : Int) (w0 w : World) : Prop where
  r : Blk w N 24 r
  g : Blk w (N + 1) 3 #[.int .i64 regs]
  b : Below N w0 w
theorem Boxes.keep {N : Nat} {r : Array Value} {regs : Int} {w0 w w' : World} (h : Boxes N r regs w0 w) (hO : Only (fun k => N + 2 ≤ k) w w') : Boxes N r regs w0 w' :=
  ⟨h.r.only hO (by omega), h.g.only hO (by omega), h.b.trans (hO.below (by have := h.r.lt; omega) (fun k hk => by omega))⟩
theorem Boxes.same {N : Nat} {r : Array Value} {regs : Int} {w0 w w' : World} (h : Boxes N r regs w0 w) (hb : Below w.heap.size w w') : Boxes N r regs w0 w' := h.keep (Only.of_below hb)
end Go.Proofs.YtilifniflpbbkaaDoor
