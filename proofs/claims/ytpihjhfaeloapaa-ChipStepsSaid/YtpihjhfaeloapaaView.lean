/- What any argument that can be read looks like in memory: one recursive view, got once from the form's own reading. No program in sight. -/
import Derived.ProofKit
import Derived.WalkKit
import Derived.SizedLaws
import Derived.ChangeArms
namespace Go.Proofs.Vw
open Go.RowKit Go.ChangeShapes Go.WideShapes

/-- the view of cells of a type: to a depth -/
def View (P : Program) (w : World) : Nat → TypeId → List Value → Prop
  | 0, _, _ => False
  | f + 1, t, cs => match P.underlying t with
    | some .bool => ∃ b, cs = [.bool b]
    | some (.int k) => ∃ n, cs = [.int k n] ∧ (Lit.int k n).wf = true
    | some .string => ∃ s, cs = [.string s] ∧ s.size ≤ reachBytes
    | some (.slice e) => cs = [.slice none 0 0] ∨ ∃ a len cap, cs = [.slice (some a) len cap] ∧ len ≤ cap ∧ cap ≤ maxLen ∧ cap * P.bytesOf e ≤ reachBytes ∧
        ∀ i, i < cap → ∃ es, w.cells? 0 (a.add (i * P.cellsOf e)) (P.cellsOf e) = some es ∧ View P w f e es
    | some (.struct fs) => cs.length = P.cellsOf t ∧ ∀ (i : Nat) (g : Field), fs[i]? = some g → View P w f g.type ((cs.drop g.offset).take (P.cellsOf g.type))
    | some (.array n e) => cs.length = P.cellsOf t ∧ ∀ i, i < n → View P w f e ((cs.drop (i * P.cellsOf e)).take (P.cellsOf e))
    | _ => True

section
variable {H : Type} {enc : TypeId × Value → H} {P : Program} {w : World}

theorem mapM_some {α β : Type} {f : α → Option β} {l : List α} {xs : List β} (h : l.mapM f = some xs) : xs.length = l.length ∧ ∀ (i : Nat) (a : α), l[i]? = some a → f a = xs[i]? := by
  induction l generalizing xs with
  | nil => simp at h; subst h; simp
  | cons a l ih =>
    simp only [List.mapM_cons, Option.bind_eq_bind, Option.bind_eq_some_iff] at h
    obtain ⟨b, hb, ys, hy, e⟩ := h
    simp at e; subst e
    obtain ⟨h1, h2⟩ := ih hy
    refine ⟨by simp [h1], ?_⟩
    intro i a' hi
    cases i with
    | zero => simp at hi; subst hi; simpa using hb
    | succ i => simpa using h2 i a' (by simpa using hi)

theorem weightsAll_mem {e : TypeId} {ds : List (DataW H)} {d : DataW H} (hd : d ∈ ds) {n : Nat} (hn : n ∈ d.weights P e) : n ∈ DataW.weightsAll P e ds := by
  induction ds with
  | nil => cases hd
  | cons a r ih =>
    simp only [DataW.weightsAll, List.mem_append]
    rcases List.mem_cons.mp hd with rfl | h
    · exact .inl hn
    · exact .inr (ih h)

theorem view_of_trod {held : Bool} : ∀ (fuel : Nat) (t : TypeId) (cs : List Value) (x : DataW H × List MemPlace),
    DataW.trod enc P w 0 (fun _ => true) held fuel t cs = some x → (∀ n ∈ x.1.weights P t, n ≤ reachBytes) → View P w fuel t cs := by
  intro fuel
  induction fuel with
  | zero => intro t cs x h; simp [DataW.trod] at h
  | succ f ih =>
    intro t cs x h hw
    unfold View
    split
    · rename_i hu
      unfold DataW.trod at h; rw [hu] at h
      split at h <;> simp_all
    · rename_i k hu
      unfold DataW.trod at h; rw [hu] at h
      split at h <;> simp_all
    · rename_i hu
      obtain ⟨s, h3, hx, _⟩ := DataW.trod_string hu h
      subst hx
      refine ⟨s, h3, hw s.size ?_⟩
      simp only [DataW.weights, List.mem_singleton, Array.length_toList]
      rfl
    · rename_i e hu
      rcases DataW.trod_slice hu h with h0 | ⟨a, len, cap, elems, rest, n, hn, hcs, hx, hb, hl, hm, hlen, hel, hsp, hns⟩
      · exact .inl h0.1
      · right
        injection hn with hn; subst hn
        obtain ⟨hr1, hr2⟩ := hsp rfl
        subst hx
        simp only [DataW.weights, hu] at hw
        refine ⟨a, len, cap, hcs, hl, hm, ?_, ?_⟩
        · have := hw _ (List.mem_cons_self ..)
          simp only [List.length_map, hlen, hr1] at this
          rwa [show len + (cap - len) = cap by omega] at this
        · intro i hi
          by_cases hil : i < len
          · have h1 := hel i hil
            rw [List.getElem?_eq_getElem (by omega), Option.bind_eq_some_iff] at h1
            obtain ⟨es, he, ht⟩ := h1
            refine ⟨es, he, ih e es _ ht fun n hn => hw n ?_⟩
            refine List.mem_cons_of_mem _ (List.mem_append_left _ (weightsAll_mem (List.mem_map_of_mem (List.getElem_mem _)) hn))
          · have h1 := hr2 (i - len) (by omega)
            rw [show len + (i - len) = i by omega] at h1
            rw [List.getElem?_eq_getElem (by omega), Option.bind_eq_some_iff] at h1
            obtain ⟨es, he, ht⟩ := h1
            refine ⟨es, he, ih e es _ ht fun n hn => hw n ?_⟩
            refine List.mem_cons_of_mem _ (List.mem_append_right _ (weightsAll_mem (List.mem_map_of_mem (List.getElem_mem _)) hn))
    · rename_i fs hu
      obtain ⟨xs, n, hn, hx, hl, hxl, hf⟩ := DataW.trod_struct hu h
      injection hn with hn; subst hn; subst hx
      simp only [DataW.weights, hu] at hw
      refine ⟨hl, fun i g hg => ?_⟩
      have h1 := hf i g hg
      have hi : i < xs.length := by rw [hxl]; exact (Array.getElem?_eq_some_iff.mp hg).1
      rw [List.getElem?_eq_getElem hi] at h1
      refine ih g.type _ _ h1 fun n hn => hw n ?_
      exact DataW.weights_mem_each (j := i) (t := g.type) (d := xs[i].1) (by simp [List.getElem?_map, Array.getElem?_toList, hg]) (by simp [List.getElem?_map, List.getElem?_eq_getElem hi]) n hn
    · rename_i n e hu
      unfold DataW.trod at h; rw [hu] at h
      have h2 : (if cs.length = P.cellsOf t then ((List.range n).mapM fun i => DataW.trod enc P w 0 (fun _ => true) held f e ((cs.drop (i * P.cellsOf e)).take (P.cellsOf e))).map fun xs => ((.agg (xs.map (·.1)) : DataW H), xs.flatMap (·.2)) else none) = some x := by
        revert h; split <;> simp_all
      split at h2
      · rename_i hl
        rw [Option.map_eq_some_iff] at h2
        obtain ⟨xs, hxs, rfl⟩ := h2
        obtain ⟨h3, h4⟩ := mapM_some hxs
        simp only [List.length_range] at h3
        simp only [DataW.weights, hu] at hw
        refine ⟨hl, fun i hi => ?_⟩
        have h5 := h4 i i (by rw [List.getElem?_range hi])
        rw [List.getElem?_eq_getElem (by omega)] at h5
        refine ih e _ _ h5 fun n hn => hw n (weightsAll_mem (List.mem_map_of_mem (List.getElem_mem _)) hn)
      · cases h2
    · trivial

/-- the view, to some depth -/
def Viewed (P : Program) (w : World) (t : TypeId) (cs : List Value) : Prop := ∃ f, View P w f t cs

theorem viewed_of {held : Bool} {t : TypeId} {v : Value} {d : DataW H} {ps : List MemPlace} {ts : List TypeId} {ds : List (DataW H)} {j : Nat}
    (h : DataW.Trod enc P w 0 (fun _ => true) held t v d ps) (hs : (DataW.weightsEach P ts ds).all (· ≤ reachBytes) = true) (ht : ts[j]? = some t) (hd : ds[j]? = some d) : Viewed P w t v.cells.toList := by
  obtain ⟨fuel, hf⟩ := h
  refine ⟨fuel, view_of_trod fuel t _ _ hf fun n hn => ?_⟩
  have := List.all_eq_true.1 hs _ (DataW.weights_mem_each ht hd n hn)
  simpa using this
end

section
variable {P : Program} {w : World} {t : TypeId} {cs : List Value}
theorem viewed_bool (hu : P.underlying t = some .bool) (h : Viewed P w t cs) : ∃ b, cs = [.bool b] := by
  obtain ⟨f, h⟩ := h; cases f with | zero => exact h.elim | succ f => unfold View at h; rw [hu] at h; exact h
theorem viewed_int {k : IntKind} (hu : P.underlying t = some (.int k)) (h : Viewed P w t cs) : ∃ n, cs = [.int k n] ∧ (Lit.int k n).wf = true := by
  obtain ⟨f, h⟩ := h; cases f with | zero => exact h.elim | succ f => unfold View at h; rw [hu] at h; exact h
theorem viewed_string (hu : P.underlying t = some .string) (h : Viewed P w t cs) : ∃ s, cs = [.string s] ∧ s.size ≤ reachBytes := by
  obtain ⟨f, h⟩ := h; cases f with | zero => exact h.elim | succ f => unfold View at h; rw [hu] at h; exact h
theorem viewed_slice {e : TypeId} (hu : P.underlying t = some (.slice e)) (h : Viewed P w t cs) :
    cs = [.slice none 0 0] ∨ ∃ a len cap, cs = [.slice (some a) len cap] ∧ len ≤ cap ∧ cap ≤ maxLen ∧ cap * P.bytesOf e ≤ reachBytes ∧
        ∀ i, i < cap → ∃ es, w.cells? 0 (a.add (i * P.cellsOf e)) (P.cellsOf e) = some es ∧ Viewed P w e es := by
  obtain ⟨f, h⟩ := h
  cases f with
  | zero => exact h.elim
  | succ f =>
    unfold View at h; rw [hu] at h
    rcases h with h | ⟨a, len, cap, h1, h2, h3, h4, h5⟩
    · exact .inl h
    · exact .inr ⟨a, len, cap, h1, h2, h3, h4, fun i hi => by obtain ⟨es, he, hv⟩ := h5 i hi; exact ⟨es, he, f, hv⟩⟩
theorem viewed_struct {fs : Array Field} (hu : P.underlying t = some (.struct fs)) (h : Viewed P w t cs) :
    cs.length = P.cellsOf t ∧ ∀ (i : Nat) (g : Field), fs[i]? = some g → Viewed P w g.type ((cs.drop g.offset).take (P.cellsOf g.type)) := by
  obtain ⟨f, h⟩ := h
  cases f with
  | zero => exact h.elim
  | succ f =>
    unfold View at h; rw [hu] at h
    exact ⟨h.1, fun i g hg => ⟨f, h.2 i g hg⟩⟩
theorem viewed_array {n : Nat} {e : TypeId} (hu : P.underlying t = some (.array n e)) (h : Viewed P w t cs) :
    cs.length = P.cellsOf t ∧ ∀ i, i < n → Viewed P w e ((cs.drop (i * P.cellsOf e)).take (P.cellsOf e)) := by
  obtain ⟨f, h⟩ := h
  cases f with
  | zero => exact h.elim
  | succ f =>
    unfold View at h; rw [hu] at h
    exact ⟨h.1, fun i hi => ⟨f, h.2 i hi⟩⟩
end

theorem add_none (b o i : Nat) : (⟨b, o, none⟩ : Addr).add i = ⟨b, o + i, none⟩ := by unfold Addr.add; split <;> simp_all
theorem add_zero (a : Addr) : a.add 0 = a := by unfold Addr.add; simp
/-- cells that are read -/
theorem cells_at {w : World} {a : Addr} {n : Nat} {es : List Value} (h : w.cells? 0 a n = some es) : es.length = n ∧ ∀ j, j < n → w.cell? (a.add j) = es[j]? := by
  unfold World.cells? at h
  rw [if_pos (Nat.zero_le _)] at h
  obtain ⟨h1, h2⟩ := mapM_some h
  simp only [List.length_range] at h1
  exact ⟨h1, fun j hj => h2 j j (by rw [List.getElem?_range hj])⟩

/-- what is known of an argument: its view, its outer form -/
def Arg (P : Program) (w : World) (t : TypeId) (v : Value) : Prop := Viewed P w t v.cells.toList ∧ ∃ base, Value.okWide P w .any base t v
section
variable {P : Program} {w : World} {t : TypeId} {v : Value}
theorem Arg.int {k : IntKind} (hu : P.underlying t = some (.int k)) (h : Arg P w t v) : ∃ n, v = .int k n ∧ (Lit.int k n).wf = true := by
  obtain ⟨h1, b, h2⟩ := h
  obtain ⟨n, rfl⟩ := okWide_int hu h2
  obtain ⟨m, e, hw⟩ := viewed_int hu h1
  simp [Value.cells] at e; subst e; exact ⟨n, rfl, hw⟩
theorem Arg.bool (hu : P.underlying t = some .bool) (h : Arg P w t v) : ∃ b, v = .bool b := by
  obtain ⟨h1, b, h2⟩ := h
  exact okWide_bool hu h2
theorem Arg.slice {e : TypeId} (hu : P.underlying t = some (.slice e)) (h : Arg P w t v) :
    v = .slice none 0 0 ∨ ∃ a len cap, v = .slice (some a) len cap ∧ len ≤ cap ∧ cap ≤ maxLen ∧ cap * P.bytesOf e ≤ reachBytes ∧
        ∀ i, i < cap → ∃ es, w.cells? 0 (a.add (i * P.cellsOf e)) (P.cellsOf e) = some es ∧ Viewed P w e es := by
  obtain ⟨h1, b, h2⟩ := h
  obtain ⟨A, len, cap, rfl⟩ := okWide_slice hu h2
  rcases viewed_slice hu h1 with e | ⟨a, len', cap', e, r⟩
  · simp [Value.cells] at e; exact .inl (by simp [e])
  · simp [Value.cells] at e; obtain ⟨rfl, rfl, rfl⟩ := e; exact .inr ⟨a, _, _, rfl, r⟩
theorem Arg.struct {fs : Array Field} (hu : P.underlying t = some (.struct fs)) (h : Arg P w t v) :
    ∃ cs, v = .agg cs ∧ cs.toList.length = P.cellsOf t ∧ ∀ (i : Nat) (g : Field), fs[i]? = some g → Viewed P w g.type ((cs.toList.drop g.offset).take (P.cellsOf g.type)) := by
  obtain ⟨h1, b, h2⟩ := h
  obtain ⟨cs, rfl, hsz⟩ := okWide_struct hu h2
  exact ⟨cs, rfl, viewed_struct hu h1⟩
/-- a slice of numbers -/
theorem viewed_ints {e : TypeId} {k : IntKind} (he : P.underlying e = some (.int k)) (hc : P.cellsOf e = 1) {a : Addr} {cap : Nat}
    (h : ∀ i, i < cap → ∃ es, w.cells? 0 (a.add (i * P.cellsOf e)) (P.cellsOf e) = some es ∧ Viewed P w e es) :
    ∃ xs : List Int, xs.length = cap ∧ (∀ x ∈ xs, (Lit.int k x).wf = true) ∧ (0 < cap → a.spot = none) ∧ ∀ i, i < cap → w.cell? ⟨a.block, a.off + i, none⟩ = some (.int k (xs.getD i 0)) := by
  have h1 : ∀ i, i < cap → ∃ n, w.cell? (a.add i) = some (.int k n) ∧ (Lit.int k n).wf = true := by
    intro i hi
    obtain ⟨es, h1, h2⟩ := h i hi
    obtain ⟨n, rfl, hw⟩ := viewed_int he h2
    rw [hc, Nat.mul_one] at h1
    have := (cells_at h1).2 0 (by omega)
    rw [add_zero] at this
    exact ⟨n, by simpa using this, hw⟩
  have h2 : ∀ c, c ≤ cap → ∃ xs : List Int, xs.length = c ∧ (∀ x ∈ xs, (Lit.int k x).wf = true) ∧ ∀ i, i < c → w.cell? (a.add i) = some (.int k (xs.getD i 0)) := by
    intro c
    induction c with
    | zero => intro _; exact ⟨[], rfl, by simp, fun i hi => by omega⟩
    | succ c ih =>
      intro hc
      obtain ⟨xs, g1, g2, g3⟩ := ih (by omega)
      obtain ⟨n, g4, g5⟩ := h1 c (by omega)
      refine ⟨xs ++ [n], by simp [g1], ?_, ?_⟩
      · intro x hx
        rcases List.mem_append.mp hx with hx | hx
        · exact g2 x hx
        · simp at hx; subst hx; exact g5
      · intro i hi
        by_cases e : i = c
        · subst e; rw [g4]; simp [List.getD_eq_getElem?_getD, ← g1]
        · rw [g3 i (by omega)]; simp [List.getD_eq_getElem?_getD, List.getElem?_append_left (show i < xs.length by omega)]
  obtain ⟨xs, g1, g2, g3⟩ := h2 cap (Nat.le_refl _)
  have g4 : 0 < cap → a.spot = none := fun h0 => by
    have := World.cell?_spot (g3 0 h0); rwa [add_zero] at this
  refine ⟨xs, g1, g2, g4, fun i hi => ?_⟩
  have := g3 i hi
  obtain ⟨b, o, s⟩ := a
  have hs : s = none := g4 (by omega)
  subst hs
  rwa [add_none] at this
end
end Go.Proofs.Vw
