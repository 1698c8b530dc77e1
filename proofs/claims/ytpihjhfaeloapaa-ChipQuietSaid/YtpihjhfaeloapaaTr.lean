/- Package leak's traces: what a trace is in memory; New, Add, Len. -/
import Derived.Test.YtpihjhfaeloapaaPick
import Derived.OwnWalk
namespace Go.Proofs.Ytpihjhfaeloapaa
open Go.RowKit On
theorem info_ev : (Try.prog.info? 51).map (fun i => (i.zero, i.size, i.bytes)) = some (some (.agg #[.int .i64 0, .int .i64 0, .int .i64 0, .int .i64 0]), 4, 32) := by kernel_rfl
/-- an event -/
structure Ev where
  (what a b c : Int)
  deriving DecidableEq
def Ev.cells (e : Ev) : List Value := [.int .i64 e.what, .int .i64 e.a, .int .i64 e.b, .int .i64 e.c]
theorem flat_length (l : List Ev) : (l.flatMap Ev.cells).length = l.length * 4 := by
  induction l with
  | nil => rfl
  | cons a l ih => rw [List.flatMap_cons, List.length_append, ih]; simp [Ev.cells]; omega
/-- a trace at block p, its row in block g -/
def Tr (w : World) (p : Nat) (g : Option Nat) (l : List Ev) : Prop :=
  ∃ v, Blk w p 76 #[v] ∧ w.ownsRow 0 51 4 v l.length (l.flatMap Ev.cells) ∧ v.ownBlock = g
/-- the blocks of a trace -/
def TrB (p : Nat) (g : Option Nat) (k : Nat) : Prop := k = p ∨ g = some k
theorem Tr.keep {w w' : World} {S : Nat → Prop} {p : Nat} {g : Option Nat} {l : List Ev} (h : Tr w p g l) (hO : Only S w w') (hn : ∀ k, TrB p g k → ¬ S k) : Tr w' p g l := by
  obtain ⟨v, h1, h2, h3⟩ := h
  exact ⟨v, h1.only hO (hn p (.inl rfl)), own_only h2 hO (fun k hk => hn k (.inr (by rw [← h3, hk]))), h3⟩
theorem Tr.lt {w : World} {p : Nat} {g : Option Nat} {l : List Ev} (h : Tr w p g l) : ∀ k, TrB p g k → k < w.heap.size := by
  obtain ⟨v, h1, h2, h3⟩ := h
  rintro k (rfl | hk)
  · exact h1.lt
  · exact own_lt h2 (by rw [h3, hk])
theorem trNew_c (w : World) : Calls Try.prog 13 #[] w fun e w' => e = .returned (.pointer (some ⟨w.heap.size, 0, none⟩)) ∧ w.alloc (.cells #[.slice none 0 0] 76) = w' := by
  go_enter Try.func13, Try.ntmps13
  go_wp2
  go_ret
  exact ⟨rfl, rfl⟩
theorem Tr.new (w : World) : Tr (w.alloc (.cells #[.slice none 0 0] 76)) w.heap.size none [] :=
  ⟨_, Blk.new w _ _, World.ownsRow_nil _ _ _ _, rfl⟩
theorem trLen_c (w : World) (p : Nat) (g : Option Nat) (l : List Ev) (h : Tr w p g l) :
    Calls Try.prog 23 #[.pointer (some ⟨p, 0, none⟩)] w fun e w' => e = .returned (.int .i64 (l.length : Int)) ∧ w = w' := by
  obtain ⟨v, h1, h2, h3⟩ := h
  obtain ⟨A, c, rfl, _⟩ := own_slice h2
  have hc := h1.cell 0
  simp at hc
  clear h2 h3 h1
  generalize l.length = n at *
  go_enter Try.func23, Try.ntmps23
  go_wp2
  go_ret
  exact ⟨rfl, rfl⟩
/-- Add's answer -/
def AddPost (w : World) (p : Nat) (g : Option Nat) (l : List Ev) (x : Ev) (e : Ending) (w' : World) : Prop :=
  e = .returned (.bool true) ∧ ∃ g', Tr w' p g' (l ++ [x]) ∧ (g' = g ∨ ∃ k, g' = some k ∧ w.heap.size ≤ k) ∧ Only (TrB p g) w w'
set_option maxHeartbeats 400000 in
theorem trAdd_c (w : World) (p : Nat) (g : Option Nat) (l : List Ev) (x : Ev) (h : Tr w p g l) (hl : l.length < 200000) :
    Calls Try.prog 40 #[.pointer (some ⟨p, 0, none⟩), .int .i64 x.what, .int .i64 x.a, .int .i64 x.b, .int .i64 x.c] w (AddPost w p g l x) := by
  obtain ⟨i0, hi0, hz0, hz1, hz2⟩ := info_parts info_ev
  obtain ⟨v, h1, h2, h3⟩ := h
  have hne : g ≠ some p := by
    rintro rfl
    obtain ⟨A, c, rfl, h4 | ⟨k, cur, rfl, _, hb, _⟩⟩ := own_slice h2
    · rw [h4.1] at h3; simp [Value.ownBlock] at h3
    · simp [Value.ownBlock] at h3; exact hb.ne h1 (by decide) h3
  obtain ⟨A, c, rfl, _⟩ := own_slice h2
  have hc := h1.cell 0
  simp at hc
  have HF : Hid ((l ++ [x]).flatMap Ev.cells = l.flatMap Ev.cells ++ x.cells) := by unfold Hid; simp
  have HL : Hid ((l ++ [x]).length = l.length + 1) := by unfold Hid; simp
  unfold AddPost Tr
  rw [HF.out, HL.out]
  have HX : Hid (x.cells = [.int .i64 x.what, .int .i64 x.a, .int .i64 x.b, .int .i64 x.c]) := rfl
  rw [HX.out]
  generalize l.flatMap Ev.cells = fl at *
  generalize x.what = x1 at *
  generalize x.a = x2 at *
  generalize x.b = x3 at *
  generalize x.c = x4 at *
  generalize hn : l.length = n at *
  clear HF HL HX hn l
  have hlt := h1.lt
  have hge : decide ((200000 : Int) ≤ (n : Int)) = false := by rw [decide_eq_false_iff_not]; omega
  have HLT := Lib.hid hl; clear hl
  have H1 := Lib.hid h1; clear h1
  have H2 := Lib.hid h2; clear h2
  have H3 := Lib.hid h3; clear h3
  have HN := Lib.hid hne; clear hne
  go_enter Try.func40, Try.ntmps40
  go_wp2_with (at_builtin; refine wpList_append_at _ rfl (.tmp 21) (.tmp 27) _ rfl 0 51 i0 _ 4 32 Try.underlying45 hi0 hz0 hz1 hz2 rfl (by omega) _ n fl rfl (H2.out.alloc _) (some ⟨w.heap.size, 0, none⟩) 1 1 [.int .i64 x1, .int .i64 x2, .int .i64 x3, .int .i64 x4] rfl (Src.block w _ 4 _ rfl (by simp [Value.oneCell']) _) (by simp) ?c3 ?c4 (by simp) ?_)
  case c3 => have := HLT.out; unfold maxLen; omega
  case c4 => have := HLT.out; omega
  intro A' c' w1 hown hg hw
  have hpp : ¬ (some p = (Value.slice A n c).ownBlock) := fun e => HN.out (by rw [← H3.out, ← e])
  have hb := (H1.out.alloc (.cells #[.int .i64 x1, .int .i64 x2, .int .i64 x3, .int .i64 x4] 51))
  have hb1 : Blk w1 p 76 #[.slice A n c] := (hg.block p hb.lt hpp).trans hb
  have hcell := hb1.cell 0
  have hfz := hb1.frozen 0
  simp at hcell
  have hO : Only (TrB p g) w w1 := ((Only.refl _ w).alloc _).grown hg (fun k hk => .inl (.inr (by rw [← H3.out, hk])))
  have HB := Lib.hid hb1; clear hb1 hb
  have HO := Lib.hid hown; clear hown
  have HG := Lib.hid hg; clear hg
  have HW := Lib.hid hw; clear hw
  have HOO := Lib.hid hO; clear hO
  clear hpp
  go_wp2
  go_ret
  refine ⟨rfl, _, ⟨_, HB.out.set 0 _, own_only HO.out (Only.setCell (S := fun k => k = p) (Only.refl _ w1) (p := ⟨p, 0, none⟩) (.inl rfl) _) ?_, rfl⟩, ?_, HOO.out.setCell (.inl (.inl rfl)) _⟩
  · intro k hk e
    have := HW.out
    subst e
    rw [hk] at this
    rcases this with h | h
    · exact HN.out (by rw [← H3.out, ← h])
    · simp at h; omega
  · rcases HW.out with h | h
    · exact .inl (by rw [h, H3.out])
    · exact .inr ⟨_, h, by simp⟩

/-- a trace that is full -/
theorem trAdd_full (w : World) (p : Nat) (g : Option Nat) (l : List Ev) (x y z u : Int) (h : Tr w p g l) (hl : 200000 ≤ l.length) :
    Calls Try.prog 40 #[.pointer (some ⟨p, 0, none⟩), .int .i64 x, .int .i64 y, .int .i64 z, .int .i64 u] w fun e w' => e = .returned (.bool false) ∧ w = w' := by
  obtain ⟨v, h1, h2, h3⟩ := h
  obtain ⟨A, c, rfl, _⟩ := own_slice h2
  have hc := h1.cell 0
  simp at hc
  clear h2 h3 h1
  generalize l.length = n at *
  have hge : decide ((200000 : Int) ≤ (n : Int)) = true := by rw [decide_eq_true_iff]; omega
  clear hl
  go_enter Try.func40, Try.ntmps40
  go_wp2
  go_ret
  exact ⟨rfl, rfl⟩
/-- the cells of an event -/
theorem Tr.at_ {w : World} {v : Value} {l : List Ev} (h : w.ownsRow 0 51 4 v l.length (l.flatMap Ev.cells)) {i : Nat} (hi : i < l.length) :
    ∃ g c, v = .slice (some ⟨g, 0, none⟩) l.length c ∧ w.cell? ⟨g, i * 4, none⟩ = some (.int .i64 (l[i]'hi).what) ∧ w.cell? ⟨g, i * 4 + 1, none⟩ = some (.int .i64 (l[i]'hi).a) ∧
      w.cell? ⟨g, i * 4 + 2, none⟩ = some (.int .i64 (l[i]'hi).b) ∧ w.cell? ⟨g, i * 4 + 3, none⟩ = some (.int .i64 (l[i]'hi).c) := by
  obtain ⟨A, c, rfl, ⟨_, h0, _⟩ | ⟨g, cur, rfl, _⟩⟩ := own_slice h
  · omega
  · have key : ∀ (l : List Ev) (i : Nat) (hi : i < l.length) (j : Nat), j < 4 → (l.flatMap Ev.cells)[i * 4 + j]? = (l[i]'hi).cells[j]? := by
      intro l
      induction l with
      | nil => intro i hi; simp at hi
      | cons a l ih =>
        intro i hi j hj
        rw [List.flatMap_cons]
        cases i with
        | zero => rw [List.getElem?_append_left (by simp [Ev.cells]; omega)]; simp
        | succ i =>
          rw [List.getElem?_append_right (by simp [Ev.cells]; omega)]
          have : (i + 1) * 4 + j - a.cells.length = i * 4 + j := by simp [Ev.cells]; omega
          rw [this]
          simpa using ih i (by simpa using hi) j hj
    have cell : ∀ j, j < 4 → ∀ u, (l[i]'hi).cells[j]? = some u → w.cell? ⟨g, i * 4 + j, none⟩ = some u := by
      intro j hj u hu
      have := h.cells (g := g) rfl (i * 4 + j) u ((key l i hi j hj).trans hu)
      have e1 : (⟨g, 0, none⟩ : Addr).add (i * 4 + j) = ⟨g, i * 4 + j, none⟩ := by unfold Addr.add; split <;> simp_all
      rwa [e1] at this
    exact ⟨g, c, rfl, cell 0 (by omega) _ rfl, cell 1 (by omega) _ rfl, cell 2 (by omega) _ rfl, cell 3 (by omega) _ rfl⟩
def Ev.val (e : Ev) : Value := .agg #[.int .i64 e.what, .int .i64 e.a, .int .i64 e.b, .int .i64 e.c]
def AtPost (v : Value) (b : Bool) (w : World) (e : Ending) (w' : World) : Prop := e = .returned (.tuple #[v, .bool b]) ∧ Below w.heap.size w w'
set_option maxHeartbeats 400000 in
theorem trAt_c (w : World) (p : Nat) (g : Option Nat) (l : List Ev) (h : Tr w p g l) (i : Nat) (hi : i < l.length) :
    Calls Try.prog 24 #[.pointer (some ⟨p, 0, none⟩), .int .i64 (i : Int)] w (AtPost (l[i]'hi).val true w) := by
  obtain ⟨v, h1, h2, h3⟩ := h
  obtain ⟨gb, c, rfl, c0, c1, c2, c3⟩ := Tr.at_ h2 hi
  have hc := h1.cell 0
  simp at hc
  have H1 : Hid (Tr w p g l) := ⟨_, h1, h2, h3⟩
  clear h1 h2 h3
  have hneg : decide ((i : Int) < 0) = false := by rw [decide_eq_false_iff_not]; omega
  have hp : p < w.heap.size := World.block_lt_of_cell? w _ hc
  have hg : gb < w.heap.size := World.block_lt_of_cell? w _ c0
  have H2 : Hid ((l[i]'hi).val = .agg #[.int .i64 (l[i]'hi).what, .int .i64 (l[i]'hi).a, .int .i64 (l[i]'hi).b, .int .i64 (l[i]'hi).c]) := rfl
  generalize hv : (l[i]'hi).val = val at *
  generalize (l[i]'hi).what = x1 at *
  generalize (l[i]'hi).a = x2 at *
  generalize (l[i]'hi).b = x3 at *
  generalize (l[i]'hi).c = x4 at *
  clear hv
  go_enter Try.func24, Try.ntmps24
  go_wp2_with (go_at_call 23; refine (trLen_c _ p g l (H1.out.keep ((Only.refl (fun _ => False) w).alloc _) (fun _ _ h => h))).mono ?_; rintro e w' ⟨rfl, rfl⟩)
  go_wp2
  rw [H2.out]
  exact bodyPost_ret (v := .tuple #[.agg #[.int .i64 x1, .int .i64 x2, .int .i64 x3, .int .i64 x4], .bool true]) (by simp [results, Try.results24, go_sem]) rfl ⟨rfl, (Below.refl _ _).alloc (Nat.le_refl _) _⟩
set_option maxHeartbeats 400000 in
theorem trAt_no (w : World) (p : Nat) (g : Option Nat) (l : List Ev) (h : Tr w p g l) (i : Int) (hi : i < 0 ∨ (l.length : Int) ≤ i) :
    Calls Try.prog 24 #[.pointer (some ⟨p, 0, none⟩), .int .i64 i] w (AtPost (Ev.val ⟨0, 0, 0, 0⟩) false w) := by
  have H1 := Lib.hid h; clear h
  unfold Ev.val
  by_cases hn : i < 0
  · clear hi
    go_enter Try.func24, Try.ntmps24
    go_wp2
    exact bodyPost_ret (v := .tuple #[.agg #[.int .i64 0, .int .i64 0, .int .i64 0, .int .i64 0], .bool false]) (by simp [results, Try.results24, go_sem]) rfl ⟨rfl, (Below.refl _ _).alloc (Nat.le_refl _) _⟩
  · have hge : (l.length : Int) ≤ i := by rcases hi with h | h; exact absurd h hn; exact h
    clear hi
    go_enter Try.func24, Try.ntmps24
    go_wp2_with (go_at_call 23; refine (trLen_c _ p g l (H1.out.keep ((Only.refl (fun _ => False) w).alloc _) (fun _ _ h => h))).mono ?_; rintro e w' ⟨rfl, rfl⟩)
    exact bodyPost_ret (v := .tuple #[.agg #[.int .i64 0, .int .i64 0, .int .i64 0, .int .i64 0], .bool false]) (by simp [results, Try.results24, go_sem]) rfl ⟨rfl, (Below.refl _ _).alloc (Nat.le_refl _) _⟩
/-- a trace, or none -/
def OTr (w : World) (P : Option Addr) (l : List Ev) : Prop := (P = none ∧ l = []) ∨ ∃ p g, P = some ⟨p, 0, none⟩ ∧ Tr w p g l
theorem oLen_c (w : World) (P : Option Addr) (l : List Ev) (h : OTr w P l) :
    Calls Try.prog 23 #[.pointer P] w fun e w' => e = .returned (.int .i64 (l.length : Int)) ∧ w = w' := by
  rcases h with ⟨rfl, rfl⟩ | ⟨p, g, rfl, h⟩
  · go_enter Try.func23, Try.ntmps23
    go_wp2
    go_ret
    exact ⟨rfl, rfl⟩
  · exact trLen_c w p g l h
/-- Same's answer -/
def SameRes (l k : List Ev) (r : Int) : Prop := (r = -1 ∧ l = k) ∨ ∃ i : Nat, r = i ∧ l.take i = k.take i ∧ l[i]? ≠ k[i]?
theorem SameRes.unique {l k : List Ev} {r s : Int} (h : SameRes l k r) (h2 : SameRes l k s) : r = s := by
  rcases h with ⟨rfl, rfl⟩ | ⟨i, rfl, hi, hn⟩
  · rcases h2 with ⟨rfl, _⟩ | ⟨j, _, _, hj⟩
    · rfl
    · exact absurd rfl hj
  · rcases h2 with ⟨_, rfl⟩ | ⟨j, rfl, hj, hm⟩
    · exact absurd rfl hn
    · have key : ∀ (i j : Nat), l.take j = k.take j → i < j → l[i]? = k[i]? := by
        intro i j e hlt
        have h1 := congrArg (fun t => t[i]?) e
        simpa [List.getElem?_take, hlt] using h1
      rcases Nat.lt_trichotomy i j with h | h | h
      · exact absurd (key i j hj h) hn
      · subst h; rfl
      · exact absurd (key j i hi h) hm
theorem SameRes.symm {l k : List Ev} {r : Int} (h : SameRes l k r) : SameRes k l r := by
  rcases h with ⟨rfl, rfl⟩ | ⟨i, rfl, hi, hn⟩
  · exact .inl ⟨rfl, rfl⟩
  · exact .inr ⟨i, rfl, hi.symm, fun e => hn e.symm⟩
theorem run_eq_ev (w : World) (a b c d x y z u : Int) : (binOp .eql 51 (.agg #[.int .i64 a, .int .i64 b, .int .i64 c, .int .i64 d]) (.agg #[.int .i64 x, .int .i64 y, .int .i64 z, .int .i64 u])).run Try.prog w = .ok (.bool (decide (a = x ∧ b = y ∧ c = z ∧ d = u))) w := by
  by_cases h1 : a = x <;> by_cases h2 : b = y <;> by_cases h3 : c = z <;> by_cases h4 : d = u <;> go_simp
theorem run_neq_ev (w : World) (a b c d x y z u : Int) : (binOp .neq 51 (.agg #[.int .i64 a, .int .i64 b, .int .i64 c, .int .i64 d]) (.agg #[.int .i64 x, .int .i64 y, .int .i64 z, .int .i64 u])).run Try.prog w = .ok (.bool (!decide (a = x ∧ b = y ∧ c = z ∧ d = u))) w := by
  by_cases h1 : a = x <;> by_cases h2 : b = y <;> by_cases h3 : c = z <;> by_cases h4 : d = u <;> go_simp
end Go.Proofs.Ytpihjhfaeloapaa
