/- A program's nodes in a row of the call's own. -/
import Derived.Test.YtilifniflpbbkaaDoorHn
import Derived.Test.YtilifniflpbbkaaDoorPl
namespace Go.Proofs.YtilifniflpbbkaaDoor
open Go.RowKit On
theorem info_node : (Tryd.prog.info? 26).map (fun i => (i.zero, i.size, i.bytes)) = some (some .nilIface, 1, 16) := by kernel_rfl
theorem Nd.okF.fresh {N : Nat} {w : World} {n : Nd} (h : n.okF N w) {a : Addr} (hs : n.sl = some a) : N ≤ a.block := by
  cases n <;> simp only [Nd.sl] at hs <;> first | exact h.2 a hs | cases hs
theorem Nd.ok.move {w w' : World} {n : Nd} (h : n.ok w) (hm : n.uses ≠ [] → ∀ a, n.sl = some a → a.block < w.heap.size → w'.heap[a.block]? = w.heap[a.block]?) : n.ok w' := by
  cases n <;> first | exact True.intro | exact h | exact ⟨Ints.move h.1 (fun hne g o s he hlt => hm hne ⟨g, o, s⟩ he hlt), h.2⟩
/-- the nodes, in a row of the call's own; their slices lie apart from it; all lie in blocks of K -/
structure Pg (K : Nat → Prop) (w : World) (v : Value) (l : List Nd) : Prop where
  own : w.ownsRow 0 26 1 v l.length (l.map Nd.val)
  inK : ∀ k, v.ownBlock = some k → K k
  ok : ∀ n ∈ l, n.ok w
  sep : ∀ n ∈ l, n.uses ≠ [] → ∀ a, n.sl = some a → K a.block ∧ v.ownBlock ≠ some a.block
theorem Pg.nil (K : Nat → Prop) (w : World) : Pg K w (.slice none 0 0) [] := ⟨World.ownsRow_nil _ _ _ _, by simp [Value.ownBlock], by simp, by simp⟩
theorem Pg.nodes {K : Nat → Prop} {w : World} {A : Option Addr} {c : Nat} {l : List Nd} (h : Pg K w (.slice A l.length c) l) : Nodes w A l := by
  intro k n hk
  refine ⟨h.ok n (List.mem_of_getElem? hk), ?_⟩
  obtain ⟨A', c', e, ⟨_, h0, _⟩ | ⟨g, cur, rfl, hb, hg, h1, h2, h3, h4⟩⟩ := own_slice h.own
  · have := (List.getElem?_eq_some_iff.mp hk).1; omega
  · injection e with e1 _ e3
    subst e1
    refine ⟨g, 0, rfl, ?_⟩
    have : (cur.toList.take (l.length * 1))[k]? = some n.val := by rw [h4, List.getElem?_map, hk]; rfl
    rw [List.getElem?_take] at this
    split at this
    · rw [hg.cell, Nat.zero_add, ← Array.getElem?_toList]; exact this
    · cases this
theorem Pg.only {K : Nat → Prop} {w w' : World} {v : Value} {l : List Nd} {S : Nat → Prop} (h : Pg K w v l) (hO : Only S w w') (hS : ∀ k, K k → ¬ S k) : Pg K w' v l :=
  ⟨own_only h.own hO (fun k hk => hS k (h.inK k hk)), h.inK, fun n hn => (h.ok n hn).move fun hne a ha hlt => hO.block a.block hlt (hS _ (h.sep n hn hne a ha).1), h.sep⟩
theorem Pg.keep {K : Nat → Prop} {w w' : World} {v : Value} {l : List Nd} (h : Pg K w v l) (hb : Below w.heap.size w w') : Pg K w' v l := h.only (S := fun _ => False) (Only.of_below hb) (fun _ _ => id)
theorem Pg.far {K : Nat → Prop} {w : World} {v : Value} {l : List Nd} (h : Pg K w v l) {p : Addr} (hp : ¬ K p.block) (u : Value) : Pg K (w.setCell p u) v l :=
  h.only (Only.setCell (S := fun j => j = p.block) (Only.refl _ w) (.inl rfl) u) (fun k hk e => hp (e ▸ hk))
theorem Pg.shift {K K' : Nat → Prop} {w : World} {v : Value} {l : List Nd} (h : Pg K w v l) (hk : ∀ k, k < w.heap.size → K k → K' k) : Pg K' w v l :=
  ⟨h.own, fun k e => hk k (h.own.lt k e).2 (h.inK k e), h.ok, fun n hn hne a ha => ⟨hk _ (Nd.sl_old (h.ok n hn) hne ha) (h.sep n hn hne a ha).1, (h.sep n hn hne a ha).2⟩⟩
theorem Pg.push {K : Nat → Prop} {k : Nat} {w3 w4 w5 : World} {RA A5 : Option Addr} {rc c5 : Nat} {l : List Nd} (h : Pg K w3 (.slice RA k rc) l) (hk : l.length = k) (h4 : Only (fun _ => False) w3 w4) (x : Nd) (hx : x.ok w3)
    (hs : x.uses ≠ [] → ∀ a, x.sl = some a → K a.block ∧ (Value.slice RA k rc).ownBlock ≠ some a.block)
    (hown : w5.ownsRow 0 26 1 (.slice A5 (k + 1) c5) (k + 1) (l.map Nd.val ++ [x.val])) (hg : w4.grownBy w5 (Value.slice RA k rc).ownBlock)
    (hat : (Value.slice A5 (k + 1) c5).ownBlock = (Value.slice RA k rc).ownBlock ∨ (Value.slice A5 (k + 1) c5).ownBlock = some w4.heap.size) (hK : K w4.heap.size) :
    Pg K w5 (.slice A5 (k + 1) c5) (l ++ [x]) := by
  have all : ∀ n ∈ l ++ [x], n.ok w3 ∧ (n.uses ≠ [] → ∀ a, n.sl = some a → K a.block ∧ (Value.slice RA k rc).ownBlock ≠ some a.block) := by
    intro y hy
    rcases List.mem_append.mp hy with hy | hy
    · exact ⟨h.ok y hy, h.sep y hy⟩
    · simp at hy; subst hy; exact ⟨hx, hs⟩
  refine ⟨?_, fun j hj => ?_, fun y hy => ?_, fun y hy hne a ha => ?_⟩
  · rw [List.length_append, hk, List.map_append]; exact hown
  · rcases hat with hat | hat
    · exact h.inK j (by rw [← hat]; exact hj)
    · rw [hat] at hj; injection hj with hj; subst hj; exact hK
  · refine (all y hy).1.move fun hne a ha hlt => ?_
    have h1 := ((all y hy).2 hne a ha).2
    rw [hg.block a.block (Nat.lt_of_lt_of_le hlt h4.size) (fun e => h1 e.symm)]
    exact h4.block a.block hlt id
  · obtain ⟨h1, h2⟩ := (all y hy).2 hne a ha
    refine ⟨h1, ?_⟩
    rcases hat with hat | hat
    · rw [hat]; exact h2
    · rw [hat]
      intro e
      injection e with e
      have := Nd.sl_old (all y hy).1 hne ha
      have := h4.size
      omega
theorem Pg.put {K : Nat → Prop} {g c : Nat} {w : World} {l : List Nd} (h : Pg K w (.slice (some ⟨g, 0, none⟩) l.length c) l) (k : Nat) (x : Nd) (hx : x.ok w)
    (hs : x.uses ≠ [] → ∀ a, x.sl = some a → K a.block ∧ g ≠ a.block) :
    Pg K (w.setCell ⟨g, k, none⟩ x.val) (.slice (some ⟨g, 0, none⟩) (l.set k x).length c) (l.set k x) := by
  have hob : ∀ {n : Nat}, (Value.slice (some ⟨g, 0, none⟩) n c).ownBlock = some g := rfl
  have all : ∀ n ∈ l.set k x, n.ok w ∧ (n.uses ≠ [] → ∀ a, n.sl = some a → K a.block ∧ g ≠ a.block) := by
    intro y hy
    rcases List.mem_or_eq_of_mem_set hy with hy | rfl
    · exact ⟨h.ok y hy, fun hne a ha => ⟨(h.sep y hy hne a ha).1, fun e => (h.sep y hy hne a ha).2 (by rw [hob, e])⟩⟩
    · exact ⟨hx, hs⟩
  refine ⟨?_, fun j hj => h.inK j hj, fun y hy => ?_, fun y hy hne a ha => ?_⟩
  · obtain ⟨A, c', e, ⟨rfl, _, _⟩ | ⟨g', cur, rfl, hb, hg, h1, h2, h3, h4⟩⟩ := own_slice h.own
    · cases e
    · injection e with e1 _ e3
      injection e1 with e1
      injection e1 with e1
      subst e1; subst e3
      refine ⟨by simp, .inr ⟨g, c, cur.setIfInBounds k x.val, rfl, hb, hg.set k _, by simpa using h1, h2, by simpa using h3, ?_⟩⟩
      rw [List.length_set, List.map_set, Array.toList_setIfInBounds, List.take_set, h4]
  · refine (all y hy).1.move fun hne a ha _ => ?_
    exact Below.heap_setCell w ⟨g, k, none⟩ x.val a.block (fun e => ((all y hy).2 hne a ha).2 e.symm)
  · obtain ⟨h1, h2⟩ := (all y hy).2 hne a ha
    exact ⟨h1, fun e => h2 (by rw [hob] at e; exact Option.some.inj e)⟩
end Go.Proofs.YtilifniflpbbkaaDoor
