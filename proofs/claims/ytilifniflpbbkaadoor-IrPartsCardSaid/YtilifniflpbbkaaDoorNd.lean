/- ir's nodes: what a node is in memory; what it reads, writes, what comes next. -/
import Derived.Test.YtilifniflpbbkaaDoorTa
import Derived.WalkSmall
import Derived.WalkSpells
import Derived.OwnWalk
namespace Go.Proofs.YtilifniflpbbkaaDoor
open Go.RowKit On
/-- integers that a slice holds -/
def Ints (q : IntKind) (w : World) (s : Value) (xs : List Int) : Prop :=
  ∃ A c, s = .slice A xs.length c ∧ (A = none → c = 0) ∧ ∀ (k : Nat) x, xs[k]? = some x → ∃ g o, A = some ⟨g, o, none⟩ ∧ w.cell? ⟨g, o + k, none⟩ = some (.int q x)
theorem Ints.nil (q : IntKind) (w : World) : Ints q w (.slice none 0 0) [] := ⟨none, 0, rfl, fun _ => rfl, fun k x h => by simp at h⟩
theorem Ints.keep {q : IntKind} {w w' : World} {s : Value} {xs : List Int} (h : Ints q w s xs) (hb : Below w.heap.size w w') : Ints q w' s xs := by
  obtain ⟨A, c, h1, h0, h2⟩ := h
  exact ⟨A, c, h1, h0, fun k x hx => by
    obtain ⟨g, o, k3, k4⟩ := h2 k x hx
    exact ⟨g, o, k3, by rw [hb.cell (World.block_lt_of_cell? w _ k4)]; exact k4⟩⟩
theorem Ints.one (w : World) (x : Int) (g : Nat) (hg : g = w.heap.size) : Ints .i64 (w.alloc (.cells #[.int .i64 x] 3)) (.slice (some ⟨g, 0, none⟩) 1 1) [x] := by
  subst hg
  exact ⟨_, 1, rfl, by simp, fun k u h => by
    match k with
    | 0 => simp at h; subst h; exact ⟨_, _, rfl, (Blk.new w 3 #[.int .i64 x]).cell 0⟩
    | k + 1 => simp at h⟩
theorem Ints.two (w : World) (x y : Int) (g : Nat) (hg : g = w.heap.size) : Ints .i64 (w.alloc (.cells #[.int .i64 x, .int .i64 y] 3)) (.slice (some ⟨g, 0, none⟩) 2 2) [x, y] := by
  subst hg
  exact ⟨_, 2, rfl, by simp, fun k u h => by
    match k with
    | 0 => simp at h; subst h; exact ⟨_, _, rfl, (Blk.new w 3 #[.int .i64 x, .int .i64 y]).cell 0⟩
    | 1 => simp at h; subst h; exact ⟨_, _, rfl, (Blk.new w 3 #[.int .i64 x, .int .i64 y]).cell 1⟩
    | k + 2 => simp at h⟩
theorem Ints.three (w : World) (x y z : Int) (g : Nat) (hg : g = w.heap.size) : Ints .i64 (w.alloc (.cells #[.int .i64 x, .int .i64 y, .int .i64 z] 3)) (.slice (some ⟨g, 0, none⟩) 3 3) [x, y, z] := by
  subst hg
  exact ⟨_, 3, rfl, by simp, fun k u h => by
    match k with
    | 0 => simp at h; subst h; exact ⟨_, _, rfl, (Blk.new w 3 #[.int .i64 x, .int .i64 y, .int .i64 z]).cell 0⟩
    | 1 => simp at h; subst h; exact ⟨_, _, rfl, (Blk.new w 3 #[.int .i64 x, .int .i64 y, .int .i64 z]).cell 1⟩
    | 2 => simp at h; subst h; exact ⟨_, _, rfl, (Blk.new w 3 #[.int .i64 x, .int .i64 y, .int .i64 z]).cell 2⟩
    | k + 3 => simp at h⟩
/-- a node; a slice of registers: its value, and what it holds -/
inductive Nd where
  | none
  | const (dst n : Int)
  | move (dst src : Int)
  | bin (op dst a b : Int)
  | un (op dst a : Int)
  | choose (dst c a b : Int)
  | tick
  | goto (to : Int)
  | branch (cond to : Int)
  | getf (dst f : Int)
  | putf (f src : Int)
  | serve (op a b dst : Int) (A : Option Addr) (c : Nat) (xs : List Int)
  | call (m dst : Int) (A : Option Addr) (c : Nat) (xs : List Int)
  | callx (m dst : Int) (A : Option Addr) (c : Nat) (xs : List Int)
  | ret (src : Int)
namespace Nd
def val : Nd → Value
  | none => .nilIface
  | const d n => .iface 66 (.agg #[.int .i64 d, .int .i32 n])
  | move d s => .iface 68 (.agg #[.int .i64 d, .int .i64 s])
  | bin op d a b => .iface 71 (.agg #[.int .i64 op, .int .i64 d, .int .i64 a, .int .i64 b])
  | un op d a => .iface 74 (.agg #[.int .i64 op, .int .i64 d, .int .i64 a])
  | choose d c a b => .iface 76 (.agg #[.int .i64 d, .int .i64 c, .int .i64 a, .int .i64 b])
  | tick => .iface 49 (.agg #[])
  | goto to => .iface 78 (.agg #[.int .i64 to])
  | branch c to => .iface 80 (.agg #[.int .i64 c, .int .i64 to])
  | getf d f => .iface 82 (.agg #[.int .i64 d, .int .i64 f])
  | putf f s => .iface 84 (.agg #[.int .i64 f, .int .i64 s])
  | serve op a b d A c xs => .iface 87 (.agg #[.int .i64 op, .int .i64 a, .int .i64 b, .int .i64 d, .slice A xs.length c])
  | call m d A c xs => .iface 89 (.agg #[.int .i64 m, .int .i64 d, .slice A xs.length c])
  | callx m d A c xs => .iface 91 (.agg #[.int .i64 m, .int .i64 d, .slice A xs.length c])
  | ret s => .iface 51 (.agg #[.int .i64 s])
/-- what its slice holds, in a world -/
def ok (w : World) : Nd → Prop
  | const _ n => -2147483648 ≤ n ∧ n ≤ 2147483647
  | serve _ _ _ _ A c xs => Ints .i64 w (.slice A xs.length c) xs ∧ xs.length ≤ 8
  | call _ _ A c xs => Ints .i64 w (.slice A xs.length c) xs ∧ xs.length ≤ 8
  | callx _ _ A c xs => Ints .i64 w (.slice A xs.length c) xs ∧ xs.length ≤ 8
  | _ => True
theorem ok.keep {w w' : World} {n : Nd} (h : n.ok w) (hb : Below w.heap.size w w') : n.ok w' := by
  cases n <;> first | exact True.intro | exact ⟨Ints.keep h.1 hb, h.2⟩ | exact h
def uses : Nd → List Int
  | move _ s => [s]
  | bin _ _ a b => [a, b]
  | un _ _ a => [a]
  | choose _ c a b => [c, a, b]
  | branch c _ => [c]
  | putf _ s => [s]
  | serve _ _ _ _ _ _ xs => xs
  | call _ _ _ _ xs => xs
  | callx _ _ _ _ xs => xs
  | ret s => if s = -1 then [] else [s]
  | _ => []
def dst : Nd → Int
  | const d _ => d
  | move d _ => d
  | bin _ d _ _ => d
  | un _ d _ => d
  | choose d _ _ _ => d
  | getf d _ => d
  | serve _ _ _ d _ _ _ => d
  | call _ d _ _ _ => d
  | callx _ d _ _ _ => d
  | _ => -1
def next (at_ : Int) : Nd → List Int
  | none => []
  | goto to => [to]
  | branch _ to => if to = at_ + 1 then [at_ + 1] else [at_ + 1, to]
  | ret _ => []
  | _ => [at_ + 1]
def pure : Nd → Bool
  | const _ _ | move _ _ | bin _ _ _ _ | un _ _ _ | choose _ _ _ _ | tick | goto _ | branch _ _ => true
  | _ => false
end Nd
theorem info_int : (Tryd.prog.info? 3).map (fun i => (i.zero, i.size, i.bytes)) = some (some (.int .i64 0), 1, 8) := by kernel_rfl
theorem info_int32 : (Tryd.prog.info? 21).map (fun i => (i.zero, i.size, i.bytes)) = some (some (.int .i32 0), 1, 4) := by kernel_rfl
theorem info_parts1 {t : TypeId} {z : Value} {s b : Nat} (h : (Tryd.prog.info? t).map (fun i => (i.zero, i.size, i.bytes)) = some (some z, s, b)) : ∃ i, Tryd.prog.info? t = some i ∧ i.zero = some z ∧ i.size = s ∧ i.bytes = b := by
  cases hi : Tryd.prog.info? t with
  | none => rw [hi] at h; simp at h
  | some i => rw [hi] at h; simp at h; exact ⟨i, rfl, h.1, h.2.1, h.2.2⟩
theorem Ints.src {q : IntKind} {w : World} {A : Option Addr} {c : Nat} {xs : List Int} (h : Ints q w (.slice A xs.length c) xs) : Src w A xs.length 1 (xs.map (Value.int q)) := by
  obtain ⟨A', c', e, h0, h2⟩ := h
  injection e with e1 _ e3
  subst e1; subst e3
  refine ⟨by simp, ?_, ?_, ?_⟩
  · rintro rfl
    cases xs with
    | nil => rfl
    | cons x xs => obtain ⟨g, o, e, _⟩ := h2 0 x rfl; cases e
  · rintro ad rfl j u hu
    rw [List.getElem?_map, Option.map_eq_some_iff] at hu
    obtain ⟨y, hy, rfl⟩ := hu
    obtain ⟨g, o, e, hc⟩ := h2 j y hy
    injection e with e; subst e
    rw [show (⟨g, o, none⟩ : Addr).add j = ⟨g, o + j, none⟩ by unfold Addr.add; split <;> simp_all]
    exact hc
  · intro u hu; rw [List.mem_map] at hu; obtain ⟨y, _, rfl⟩ := hu; rfl
/-- a row of the call's own that holds integers -/
theorem Ints.own {q : IntKind} {t : TypeId} {w : World} {base n : Nat} {v : Value} {xs : List Int} (h : w.ownsRow base t 1 v n (xs.map (Value.int q))) : Ints q w v xs ∧ n = xs.length := by
  have hn : n = xs.length := by have := h.1; simpa using this.symm
  refine ⟨?_, hn⟩
  subst hn
  obtain ⟨A, c, rfl, ⟨rfl, h0, rfl⟩ | ⟨g, cur, rfl, _, h2, h3, _, _, h4⟩⟩ := own_slice h
  · have : xs = [] := List.eq_nil_of_length_eq_zero h0
    subst this
    exact Ints.nil q w
  · refine ⟨_, c, rfl, by simp, fun k x hx => ⟨g, 0, rfl, ?_⟩⟩
    rw [h2.cell (0 + k)]
    have hk : k < xs.length := (List.getElem?_eq_some_iff.mp hx).1
    have : (cur.toList.take (xs.length * 1))[k]? = some (.int q x) := by rw [h4]; simp [hx]
    rw [List.getElem?_take] at this
    simp [hk] at this
    simp [this]
/-- a new row of integers is handed back -/
def NewInts (q : IntKind) (t : TypeId) (xs : List Int) (w : World) (en : Ending) (w' : World) : Prop :=
  ∃ A c, en = .returned (.slice A xs.length c) ∧ w'.ownsRow w.heap.size t 1 (.slice A xs.length c) xs.length (xs.map (Value.int q)) ∧ Below w.heap.size w w'
set_option maxHeartbeats 1000000 in
theorem cloneI_c (w : World) (v : Value) (xs : List Int) (h : Ints .i64 w v xs) (hl : xs.length ≤ 100000) :
    Calls Tryd.prog 28 #[v] w (NewInts .i64 3 xs w) := by
  obtain ⟨i0, hi0, hz0, hz1, hz2⟩ := info_parts1 info_int
  have h' := h
  obtain ⟨A, c, rfl, h0, _⟩ := h'
  cases A with
  | none =>
    have hs := h.src.none_ rfl
    have : xs = [] := List.eq_nil_of_length_eq_zero hs
    subst this
    obtain rfl := h0 rfl
    have hnil := fun w : World => Lib.run_eql_slice_nil (P := Tryd.prog) w 22 3 none 0 0 0 0 Tryd.underlying22
    go_enter Tryd.func28, Tryd.ntmps28
    go_wp2
    go_ret
    exact ⟨none, 0, rfl, World.ownsRow_nil _ _ _ _, Below.refl _ _⟩
  | some ad =>
    have hnil := fun w : World => Lib.run_eql_slice_nil (P := Tryd.prog) w 22 3 (some ad) xs.length c 0 0 Tryd.underlying22
    have hown := World.ownsRow_made (size := 1) (e := 3) (base := w.heap.size) w #[] 0 (Nat.le_refl _) (by unfold maxLen; omega) (by simp)
    have HS : Hid (Src (w.alloc (.cells #[] 3)) (some ad) xs.length 1 (xs.map (Value.int .i64))) := Ints.src (h.keep ((Below.refl _ _).alloc (Nat.le_refl _) _))
    have HL := Lib.hid hl; clear hl
    clear h h0
    unfold NewInts
    generalize xs.map (Value.int .i64) = fl at *
    generalize xs.length = n at *
    go_enter Tryd.func28, Tryd.ntmps28
    go_wp2_with (at_builtin; refine wpList_append_at _ rfl (.tmp 5) (.tmp 6) _ rfl w.heap.size 3 i0 _ 1 8 Tryd.underlying22 hi0 hz0 hz1 hz2 rfl (by omega) _ 0 [] rfl hown (some ad) n c fl rfl HS.out (by simp) ?c3 ?c4 (by simp) ?_)
    case c3 => have := HL.out; unfold maxLen; omega
    case c4 => have := HL.out; omega
    intro A' c' w1 hown1 hg hw
    have hb : Below w.heap.size w w1 := ((Below.refl _ _).alloc (Nat.le_refl _) _).grown hg (by simp) (by simp [Value.ownBlock])
    have HO := Lib.hid hown1; clear hown1 hw hown hg
    try simp only [Nat.zero_add]
    go_wp2
    go_ret
    have := HO.out
    try simp only [Nat.zero_add, List.nil_append] at this
    exact ⟨A', c', rfl, this, hb⟩
set_option maxHeartbeats 1000000 in
theorem cloneR_c (w : World) (v : Value) (xs : List Int) (h : Ints .i32 w v xs) (hl : xs.length ≤ 100000) :
    Calls Tryd.prog 33 #[v] w (NewInts .i32 21 xs w) := by
  obtain ⟨i0, hi0, hz0, hz1, hz2⟩ := info_parts1 info_int32
  have h' := h
  obtain ⟨A, c, rfl, h0, _⟩ := h'
  cases A with
  | none =>
    have hs := h.src.none_ rfl
    have : xs = [] := List.eq_nil_of_length_eq_zero hs
    subst this
    obtain rfl := h0 rfl
    have hnil := fun w : World => Lib.run_eql_slice_nil (P := Tryd.prog) w 59 21 none 0 0 0 0 Tryd.underlying59
    go_enter Tryd.func33, Tryd.ntmps33
    go_wp2
    go_ret
    exact ⟨none, 0, rfl, World.ownsRow_nil _ _ _ _, Below.refl _ _⟩
  | some ad =>
    have hnil := fun w : World => Lib.run_eql_slice_nil (P := Tryd.prog) w 59 21 (some ad) xs.length c 0 0 Tryd.underlying59
    have hown := World.ownsRow_made (size := 1) (e := 21) (base := w.heap.size) w #[] 0 (Nat.le_refl _) (by unfold maxLen; omega) (by simp)
    have HS : Hid (Src (w.alloc (.cells #[] 21)) (some ad) xs.length 1 (xs.map (Value.int .i32))) := Ints.src (h.keep ((Below.refl _ _).alloc (Nat.le_refl _) _))
    have HL := Lib.hid hl; clear hl
    clear h h0
    unfold NewInts
    generalize xs.map (Value.int .i32) = fl at *
    generalize xs.length = n at *
    go_enter Tryd.func33, Tryd.ntmps33
    go_wp2_with (at_builtin; refine wpList_append_at _ rfl (.tmp 5) (.tmp 6) _ rfl w.heap.size 21 i0 _ 1 4 Tryd.underlying59 hi0 hz0 hz1 hz2 rfl (by omega) _ 0 [] rfl hown (some ad) n c fl rfl HS.out (by simp) ?c3 ?c4 (by simp) ?_)
    case c3 => have := HL.out; unfold maxLen; omega
    case c4 => have := HL.out; omega
    intro A' c' w1 hown1 hg hw
    have hb : Below w.heap.size w w1 := ((Below.refl _ _).alloc (Nat.le_refl _) _).grown hg (by simp) (by simp [Value.ownBlock])
    have HO := Lib.hid hown1; clear hown1 hw hown hg
    try simp only [Nat.zero_add]
    go_wp2
    go_ret
    have := HO.out
    try simp only [Nat.zero_add, List.nil_append] at this
    exact ⟨A', c', rfl, this, hb⟩
set_option maxHeartbeats 4000000 in
theorem pure_c (n : Nd) (w : World) : Calls Tryd.prog 18 #[n.val] w fun e w' => e = .returned (.bool n.pure) ∧ w = w' := by
  have aConst := taConst; have nConst := tnConst
  have aMove := taMove; have nMove := tnMove
  have aBin := taBin; have nBin := tnBin
  have aUn := taUn; have nUn := tnUn
  have aChoose := taChoose; have nChoose := tnChoose
  have aTick := taTick; have nTick := tnTick
  have aGoto := taGoto; have nGoto := tnGoto
  have aBranch := taBranch; have nBranch := tnBranch
  cases n <;> dsimp only [Nd.val, Nd.pure]
  all_goals
    go_enter Tryd.func18, Tryd.ntmps18
    go_wp2_with fail
    go_ret
    exact ⟨rfl, rfl⟩
set_option maxHeartbeats 4000000 in
theorem def_c (n : Nd) (w : World) : Calls Tryd.prog 14 #[n.val] w fun e w' => e = .returned (.int .i64 n.dst) ∧ Below w.heap.size w w' := by
  have aConst := taConst; have nConst := tnConst
  have aMove := taMove; have nMove := tnMove
  have aBin := taBin; have nBin := tnBin
  have aUn := taUn; have nUn := tnUn
  have aChoose := taChoose; have nChoose := tnChoose
  have aGetField := taGetField; have nGetField := tnGetField
  have aServe := taServe; have nServe := tnServe
  have aCall := taCall; have nCall := tnCall
  have aCallX := taCallX; have nCallX := tnCallX
  cases n <;> dsimp only [Nd.val, Nd.dst]
  all_goals
    go_enter Tryd.func14, Tryd.ntmps14
    go_wp2_with fail
    go_ret
    first | exact ⟨rfl, Below.refl _ _⟩ | exact ⟨rfl, (Below.refl _ _).alloc (Nat.le_refl _) _⟩
/-- integers are handed back -/
def GiveInts (xs : List Int) (w : World) (e : Ending) (w' : World) : Prop := ∃ s, e = .returned s ∧ Ints .i64 w' s xs ∧ Below w.heap.size w w'
theorem NewInts.give {xs : List Int} {w : World} {e : Ending} {w' : World} (h : NewInts .i64 3 xs w e w') : GiveInts xs w e w' := by
  obtain ⟨A, c, h1, h2, h3⟩ := h
  exact ⟨_, h1, (Ints.own h2).1, h3⟩
set_option maxHeartbeats 4000000 in
theorem next_c (n : Nd) (at_ : Int) (h0 : 0 ≤ at_) (h1 : at_ < 100000) (w : World) : Calls Tryd.prog 16 #[n.val, .int .i64 at_] w (GiveInts (n.next at_) w) := by
  have aGoto := taGoto; have nGoto := tnGoto
  have aBranch := taBranch; have nBranch := tnBranch
  have aRet := taRet; have nRet := tnRet
  have hb : Below w.heap.size w w := Below.refl _ _
  cases n
  case branch c to =>
    dsimp only [Nd.val, Nd.next]
    by_cases h : to = at_ + 1
    · rw [if_pos h]
      have hne : (to != at_ + 1) = false := by simp [h]
      go_enter Tryd.func16, Tryd.ntmps16
      go_wp2_with fail
      go_ret
      exact ⟨_, rfl, Ints.one _ _ _ (by simp), (hb.alloc (Nat.le_refl _) _).alloc (by simp) _⟩
    · rw [if_neg h]
      have hne : (to != at_ + 1) = true := by simp [h]
      go_enter Tryd.func16, Tryd.ntmps16
      go_wp2_with fail
      go_ret
      exact ⟨_, rfl, Ints.two _ _ _ _ (by simp), (hb.alloc (Nat.le_refl _) _).alloc (by simp) _⟩
  all_goals
    dsimp only [Nd.val, Nd.next]
    go_enter Tryd.func16, Tryd.ntmps16
    go_wp2_with fail
    go_ret
    first | exact ⟨_, rfl, Ints.nil _ _, hb⟩ | exact ⟨_, rfl, Ints.nil _ _, hb.alloc (Nat.le_refl _) _⟩ | exact ⟨_, rfl, Ints.one _ _ _ (by simp), hb.alloc (Nat.le_refl _) _⟩ | exact ⟨_, rfl, Ints.one _ _ _ (by simp), (hb.alloc (Nat.le_refl _) _).alloc (by simp) _⟩
set_option maxHeartbeats 4000000 in
theorem uses_c (n : Nd) (w : World) (hok : n.ok w) : Calls Tryd.prog 12 #[n.val] w (GiveInts n.uses w) := by
  have aMove := taMove; have nMove := tnMove
  have aBin := taBin; have nBin := tnBin
  have aUn := taUn; have nUn := tnUn
  have aChoose := taChoose; have nChoose := tnChoose
  have aBranch := taBranch; have nBranch := tnBranch
  have aPutField := taPutField; have nPutField := tnPutField
  have aServe := taServe; have nServe := tnServe
  have aCall := taCall; have nCall := tnCall
  have aCallX := taCallX; have nCallX := tnCallX
  have aRet := taRet; have nRet := tnRet
  have hb : Below w.heap.size w w := Below.refl _ _
  cases n
  case ret s =>
    clear hok
    dsimp only [Nd.val, Nd.uses]
    by_cases h : s = -1
    · subst h
      rw [if_pos rfl]
      go_enter Tryd.func12, Tryd.ntmps12
      go_wp2_with fail
      go_ret
      exact ⟨_, rfl, Ints.nil _ _, hb.alloc (Nat.le_refl _) _⟩
    · rw [if_neg h]
      have hne : (s != -1) = true := by simp [h]
      go_enter Tryd.func12, Tryd.ntmps12
      go_wp2_with fail
      go_ret
      exact ⟨_, rfl, Ints.one _ _ _ (by simp), (hb.alloc (Nat.le_refl _) _).alloc (by simp) _⟩
  case serve op a b d A c xs =>
    dsimp only [Nd.val, Nd.uses]
    have HI := Lib.hid hok.1
    have HL := Lib.hid hok.2
    clear hok
    go_enter Tryd.func12, Tryd.ntmps12
    go_wp2_with fail
    refine (cloneI_c _ _ xs (HI.out.keep (hb.alloc (Nat.le_refl _) _)) (by have := HL.out; omega)).mono ?_
    intro e w2 h
    obtain ⟨A, c, rfl, h2, h3⟩ := h
    have H2 := Lib.hid (Ints.own h2).1
    have H3 := Lib.hid h3
    clear h2 h3
    go_wp2_with fail
    go_ret
    exact ⟨_, rfl, H2.out, (hb.alloc (Nat.le_refl _) _).trans (H3.out.mono (by simp))⟩
  case call m d A c xs =>
    dsimp only [Nd.val, Nd.uses]
    have HI := Lib.hid hok.1
    have HL := Lib.hid hok.2
    clear hok
    go_enter Tryd.func12, Tryd.ntmps12
    go_wp2_with fail
    refine (cloneI_c _ _ xs (HI.out.keep (hb.alloc (Nat.le_refl _) _)) (by have := HL.out; omega)).mono ?_
    intro e w2 h
    obtain ⟨A, c, rfl, h2, h3⟩ := h
    have H2 := Lib.hid (Ints.own h2).1
    have H3 := Lib.hid h3
    clear h2 h3
    go_wp2_with fail
    go_ret
    exact ⟨_, rfl, H2.out, (hb.alloc (Nat.le_refl _) _).trans (H3.out.mono (by simp))⟩
  case callx m d A c xs =>
    dsimp only [Nd.val, Nd.uses]
    have HI := Lib.hid hok.1
    have HL := Lib.hid hok.2
    clear hok
    go_enter Tryd.func12, Tryd.ntmps12
    go_wp2_with fail
    refine (cloneI_c _ _ xs (HI.out.keep (hb.alloc (Nat.le_refl _) _)) (by have := HL.out; omega)).mono ?_
    intro e w2 h
    obtain ⟨A, c, rfl, h2, h3⟩ := h
    have H2 := Lib.hid (Ints.own h2).1
    have H3 := Lib.hid h3
    clear h2 h3
    go_wp2_with fail
    go_ret
    exact ⟨_, rfl, H2.out, (hb.alloc (Nat.le_refl _) _).trans (H3.out.mono (by simp))⟩
  all_goals
    clear hok
    dsimp only [Nd.val, Nd.uses]
    go_enter Tryd.func12, Tryd.ntmps12
    go_wp2_with fail
    go_ret
    first | exact ⟨_, rfl, Ints.nil _ _, hb⟩ | exact ⟨_, rfl, Ints.nil _ _, hb.alloc (Nat.le_refl _) _⟩ | exact ⟨_, rfl, Ints.one _ _ _ (by simp), (hb.alloc (Nat.le_refl _) _).alloc (by simp) _⟩ | exact ⟨_, rfl, Ints.two _ _ _ _ (by simp), (hb.alloc (Nat.le_refl _) _).alloc (by simp) _⟩ | exact ⟨_, rfl, Ints.three _ _ _ _ _ (by simp), (hb.alloc (Nat.le_refl _) _).alloc (by simp) _⟩
end Go.Proofs.YtilifniflpbbkaaDoor
