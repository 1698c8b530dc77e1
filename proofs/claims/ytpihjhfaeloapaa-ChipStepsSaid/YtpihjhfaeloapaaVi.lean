/- MERGED by mergev.py: XTr XCk. -/
import Derived.Test.YtpihjhfaeloapaaVa
import Derived.OwnWalk
import Derived.Test.YtpihjhfaeloapaaVh
import Derived.Deep.RegionLaw
import Derived.Deep.RegionWith
import Derived.StillTailTactics
import Derived.Deep.MidRow
import Derived.Deep.DeepCutAuto
namespace Go.Proofs.Ytpihjhfaeloapaa
open Go.RowKit On
theorem info_ev : (Try.prog.info? 51).map (fun i => (i.zero, i.size, i.bytes)) = some (some (.agg #[.int .i64 0, .int .i64 0, .int .i64 0, .int .i64 0]), 4, 32) := by kernel_rfl
/-- an event -/
structure Ev where
  (what a b c : Int)
  deriving DecidableEq
def Ev.cells (e : Ev) : List Value := [.int .i64 e.what, .int .i64 e.a, .int .i64 e.b, .int .i64 e.c]
theorem flat_length (l : List Ev) : (l.flatMap Ev.cells).length = l.length * 4 := by
  induction l with
  | nil => rfl
  | cons a l ih => rw [List.flatMap_cons, List.length_append, ih]; simp [Ev.cells]; omega
/-- a trace at block p, its row in block g -/
def Tr (w : World) (p : Nat) (g : Option Nat) (l : List Ev) : Prop :=
  ∃ v, Blk w p 76 #[v] ∧ w.ownsRow 0 51 4 v l.length (l.flatMap Ev.cells) ∧ v.ownBlock = g
/-- the blocks of a trace -/
def TrB (p : Nat) (g : Option Nat) (k : Nat) : Prop := k = p ∨ g = some k
theorem Tr.keep {w w' : World} {S : Nat → Prop} {p : Nat} {g : Option Nat} {l : List Ev} (h : Tr w p g l) (hO : Only S w w') (hn : ∀ k, TrB p g k → ¬ S k) : Tr w' p g l := by
  obtain ⟨v, h1, h2, h3⟩ := h
  exact ⟨v, h1.only hO (hn p (.inl rfl)), own_only h2 hO (fun k hk => hn k (.inr (by rw [← h3, hk]))), h3⟩
theorem Tr.lt {w : World} {p : Nat} {g : Option Nat} {l : List Ev} (h : Tr w p g l) : ∀ k, TrB p g k → k < w.heap.size := by
  obtain ⟨v, h1, h2, h3⟩ := h
  rintro k (rfl | hk)
  · exact h1.lt
  · exact own_lt h2 (by rw [h3, hk])
theorem trNew_c (w : World) : Calls Try.prog 13 #[] w fun e w' => e = .returned (.pointer (some ⟨w.heap.size, 0, none⟩)) ∧ w.alloc (.cells #[.slice none 0 0] 76) = w' := by
  go_enter Try.func13, Try.ntmps13
  go_wp2
  go_ret
  exact ⟨rfl, rfl⟩
theorem Tr.new (w : World) : Tr (w.alloc (.cells #[.slice none 0 0] 76)) w.heap.size none [] :=
  ⟨_, Blk.new w _ _, World.ownsRow_nil _ _ _ _, rfl⟩
theorem trLen_c (w : World) (p : Nat) (g : Option Nat) (l : List Ev) (h : Tr w p g l) :
    Calls Try.prog 23 #[.pointer (some ⟨p, 0, none⟩)] w fun e w' => e = .returned (.int .i64 (l.length : Int)) ∧ w = w' := by
  obtain ⟨v, h1, h2, h3⟩ := h
  obtain ⟨A, c, rfl, _⟩ := own_slice h2
  have hc := h1.cell 0
  simp at hc
  clear h2 h3 h1
  generalize l.length = n at *
  go_enter Try.func23, Try.ntmps23
  go_wp2
  go_ret
  exact ⟨rfl, rfl⟩
/-- Add's answer -/
def AddPost (w : World) (p : Nat) (g : Option Nat) (l : List Ev) (x : Ev) (e : Ending) (w' : World) : Prop :=
  e = .returned (.bool true) ∧ ∃ g', Tr w' p g' (l ++ [x]) ∧ (g' = g ∨ ∃ k, g' = some k ∧ w.heap.size ≤ k) ∧ Only (TrB p g) w w'
set_option maxHeartbeats 400000 in
theorem trAdd_c (w : World) (p : Nat) (g : Option Nat) (l : List Ev) (x : Ev) (h : Tr w p g l) (hl : l.length < 200000) :
    Calls Try.prog 40 #[.pointer (some ⟨p, 0, none⟩), .int .i64 x.what, .int .i64 x.a, .int .i64 x.b, .int .i64 x.c] w (AddPost w p g l x) := by
  obtain ⟨i0, hi0, hz0, hz1, hz2⟩ := info_parts info_ev
  obtain ⟨v, h1, h2, h3⟩ := h
  have hne : g ≠ some p := by
    rintro rfl
    obtain ⟨A, c, rfl, h4 | ⟨k, cur, rfl, _, hb, _⟩⟩ := own_slice h2
    · rw [h4.1] at h3; simp [Value.ownBlock] at h3
    · simp [Value.ownBlock] at h3; exact hb.ne h1 (by decide) h3
  obtain ⟨A, c, rfl, _⟩ := own_slice h2
  have hc := h1.cell 0
  simp at hc
  have HF : Hid ((l ++ [x]).flatMap Ev.cells = l.flatMap Ev.cells ++ x.cells) := by unfold Hid; simp
  have HL : Hid ((l ++ [x]).length = l.length + 1) := by unfold Hid; simp
  unfold AddPost Tr
  rw [HF.out, HL.out]
  have HX : Hid (x.cells = [.int .i64 x.what, .int .i64 x.a, .int .i64 x.b, .int .i64 x.c]) := rfl
  rw [HX.out]
  generalize l.flatMap Ev.cells = fl at *
  generalize x.what = x1 at *
  generalize x.a = x2 at *
  generalize x.b = x3 at *
  generalize x.c = x4 at *
  generalize hn : l.length = n at *
  clear HF HL HX hn l
  have hlt := h1.lt
  have hge : decide ((200000 : Int) ≤ (n : Int)) = false := by rw [decide_eq_false_iff_not]; omega
  have HLT := Lib.hid hl; clear hl
  have H1 := Lib.hid h1; clear h1
  have H2 := Lib.hid h2; clear h2
  have H3 := Lib.hid h3; clear h3
  have HN := Lib.hid hne; clear hne
  go_enter Try.func40, Try.ntmps40
  go_wp2_with (at_builtin; refine wpList_append_at _ rfl (.tmp 21) (.tmp 27) _ rfl 0 51 i0 _ 4 32 Try.underlying45 hi0 hz0 hz1 hz2 rfl (by omega) _ n fl rfl (H2.out.alloc _) (some ⟨w.heap.size, 0, none⟩) 1 1 [.int .i64 x1, .int .i64 x2, .int .i64 x3, .int .i64 x4] rfl (Src.block w _ 4 _ rfl (by simp [Value.oneCell']) _) (by simp) ?c3 ?c4 (by simp) ?_)
  case c3 => have := HLT.out; unfold maxLen; omega
  case c4 => have := HLT.out; omega
  intro A' c' w1 hown hg hw
  have hpp : ¬ (some p = (Value.slice A n c).ownBlock) := fun e => HN.out (by rw [← H3.out, ← e])
  have hb := (H1.out.alloc (.cells #[.int .i64 x1, .int .i64 x2, .int .i64 x3, .int .i64 x4] 51))
  have hb1 : Blk w1 p 76 #[.slice A n c] := (hg.block p hb.lt hpp).trans hb
  have hcell := hb1.cell 0
  have hfz := hb1.frozen 0
  simp at hcell
  have hO : Only (TrB p g) w w1 := ((Only.refl _ w).alloc _).grown hg (fun k hk => .inl (.inr (by rw [← H3.out, hk])))
  have HB := Lib.hid hb1; clear hb1 hb
  have HO := Lib.hid hown; clear hown
  have HG := Lib.hid hg; clear hg
  have HW := Lib.hid hw; clear hw
  have HOO := Lib.hid hO; clear hO
  clear hpp
  go_wp2
  go_ret
  refine ⟨rfl, _, ⟨_, HB.out.set 0 _, own_only HO.out (Only.setCell (S := fun k => k = p) (Only.refl _ w1) (p := ⟨p, 0, none⟩) (.inl rfl) _) ?_, rfl⟩, ?_, HOO.out.setCell (.inl (.inl rfl)) _⟩
  · intro k hk e
    have := HW.out
    subst e
    rw [hk] at this
    rcases this with h | h
    · exact HN.out (by rw [← H3.out, ← h])
    · simp at h; omega
  · rcases HW.out with h | h
    · exact .inl (by rw [h, H3.out])
    · exact .inr ⟨_, h, by simp⟩

/-- a trace that is full -/
theorem trAdd_full (w : World) (p : Nat) (g : Option Nat) (l : List Ev) (x y z u : Int) (h : Tr w p g l) (hl : 200000 ≤ l.length) :
    Calls Try.prog 40 #[.pointer (some ⟨p, 0, none⟩), .int .i64 x, .int .i64 y, .int .i64 z, .int .i64 u] w fun e w' => e = .returned (.bool false) ∧ w = w' := by
  obtain ⟨v, h1, h2, h3⟩ := h
  obtain ⟨A, c, rfl, _⟩ := own_slice h2
  have hc := h1.cell 0
  simp at hc
  clear h2 h3 h1
  generalize l.length = n at *
  have hge : decide ((200000 : Int) ≤ (n : Int)) = true := by rw [decide_eq_true_iff]; omega
  clear hl
  go_enter Try.func40, Try.ntmps40
  go_wp2
  go_ret
  exact ⟨rfl, rfl⟩
/-- the cells of an event -/
theorem Tr.at_ {w : World} {v : Value} {l : List Ev} (h : w.ownsRow 0 51 4 v l.length (l.flatMap Ev.cells)) {i : Nat} (hi : i < l.length) :
    ∃ g c, v = .slice (some ⟨g, 0, none⟩) l.length c ∧ w.cell? ⟨g, i * 4, none⟩ = some (.int .i64 (l[i]'hi).what) ∧ w.cell? ⟨g, i * 4 + 1, none⟩ = some (.int .i64 (l[i]'hi).a) ∧
      w.cell? ⟨g, i * 4 + 2, none⟩ = some (.int .i64 (l[i]'hi).b) ∧ w.cell? ⟨g, i * 4 + 3, none⟩ = some (.int .i64 (l[i]'hi).c) := by
  obtain ⟨A, c, rfl, ⟨_, h0, _⟩ | ⟨g, cur, rfl, _⟩⟩ := own_slice h
  · omega
  · have key : ∀ (l : List Ev) (i : Nat) (hi : i < l.length) (j : Nat), j < 4 → (l.flatMap Ev.cells)[i * 4 + j]? = (l[i]'hi).cells[j]? := by
      intro l
      induction l with
      | nil => intro i hi; simp at hi
      | cons a l ih =>
        intro i hi j hj
        rw [List.flatMap_cons]
        cases i with
        | zero => rw [List.getElem?_append_left (by simp [Ev.cells]; omega)]; simp
        | succ i =>
          rw [List.getElem?_append_right (by simp [Ev.cells]; omega)]
          have : (i + 1) * 4 + j - a.cells.length = i * 4 + j := by simp [Ev.cells]; omega
          rw [this]
          simpa using ih i (by simpa using hi) j hj
    have cell : ∀ j, j < 4 → ∀ u, (l[i]'hi).cells[j]? = some u → w.cell? ⟨g, i * 4 + j, none⟩ = some u := by
      intro j hj u hu
      have := h.cells (g := g) rfl (i * 4 + j) u ((key l i hi j hj).trans hu)
      have e1 : (⟨g, 0, none⟩ : Addr).add (i * 4 + j) = ⟨g, i * 4 + j, none⟩ := by unfold Addr.add; split <;> simp_all
      rwa [e1] at this
    exact ⟨g, c, rfl, cell 0 (by omega) _ rfl, cell 1 (by omega) _ rfl, cell 2 (by omega) _ rfl, cell 3 (by omega) _ rfl⟩
def Ev.val (e : Ev) : Value := .agg #[.int .i64 e.what, .int .i64 e.a, .int .i64 e.b, .int .i64 e.c]
def AtPost (v : Value) (b : Bool) (w : World) (e : Ending) (w' : World) : Prop := e = .returned (.tuple #[v, .bool b]) ∧ Below w.heap.size w w'
set_option maxHeartbeats 400000 in
theorem trAt_c (w : World) (p : Nat) (g : Option Nat) (l : List Ev) (h : Tr w p g l) (i : Nat) (hi : i < l.length) :
    Calls Try.prog 24 #[.pointer (some ⟨p, 0, none⟩), .int .i64 (i : Int)] w (AtPost (l[i]'hi).val true w) := by
  obtain ⟨v, h1, h2, h3⟩ := h
  obtain ⟨gb, c, rfl, c0, c1, c2, c3⟩ := Tr.at_ h2 hi
  have hc := h1.cell 0
  simp at hc
  have H1 : Hid (Tr w p g l) := ⟨_, h1, h2, h3⟩
  clear h1 h2 h3
  have hneg : decide ((i : Int) < 0) = false := by rw [decide_eq_false_iff_not]; omega
  have hp : p < w.heap.size := World.block_lt_of_cell? w _ hc
  have hg : gb < w.heap.size := World.block_lt_of_cell? w _ c0
  have H2 : Hid ((l[i]'hi).val = .agg #[.int .i64 (l[i]'hi).what, .int .i64 (l[i]'hi).a, .int .i64 (l[i]'hi).b, .int .i64 (l[i]'hi).c]) := rfl
  generalize hv : (l[i]'hi).val = val at *
  generalize (l[i]'hi).what = x1 at *
  generalize (l[i]'hi).a = x2 at *
  generalize (l[i]'hi).b = x3 at *
  generalize (l[i]'hi).c = x4 at *
  clear hv
  go_enter Try.func24, Try.ntmps24
  go_wp2_with (go_at_call 23; refine (trLen_c _ p g l (H1.out.keep ((Only.refl (fun _ => False) w).alloc _) (fun _ _ h => h))).mono ?_; rintro e w' ⟨rfl, rfl⟩)
  go_wp2
  rw [H2.out]
  exact bodyPost_ret (v := .tuple #[.agg #[.int .i64 x1, .int .i64 x2, .int .i64 x3, .int .i64 x4], .bool true]) (by simp [results, Try.results24, go_sem]) rfl ⟨rfl, (Below.refl _ _).alloc (Nat.le_refl _) _⟩
set_option maxHeartbeats 400000 in
theorem trAt_no (w : World) (p : Nat) (g : Option Nat) (l : List Ev) (h : Tr w p g l) (i : Int) (hi : i < 0 ∨ (l.length : Int) ≤ i) :
    Calls Try.prog 24 #[.pointer (some ⟨p, 0, none⟩), .int .i64 i] w (AtPost (Ev.val ⟨0, 0, 0, 0⟩) false w) := by
  have H1 := Lib.hid h; clear h
  unfold Ev.val
  by_cases hn : i < 0
  · clear hi
    go_enter Try.func24, Try.ntmps24
    go_wp2
    exact bodyPost_ret (v := .tuple #[.agg #[.int .i64 0, .int .i64 0, .int .i64 0, .int .i64 0], .bool false]) (by simp [results, Try.results24, go_sem]) rfl ⟨rfl, (Below.refl _ _).alloc (Nat.le_refl _) _⟩
  · have hge : (l.length : Int) ≤ i := by rcases hi with h | h; exact absurd h hn; exact h
    clear hi
    go_enter Try.func24, Try.ntmps24
    go_wp2_with (go_at_call 23; refine (trLen_c _ p g l (H1.out.keep ((Only.refl (fun _ => False) w).alloc _) (fun _ _ h => h))).mono ?_; rintro e w' ⟨rfl, rfl⟩)
    exact bodyPost_ret (v := .tuple #[.agg #[.int .i64 0, .int .i64 0, .int .i64 0, .int .i64 0], .bool false]) (by simp [results, Try.results24, go_sem]) rfl ⟨rfl, (Below.refl _ _).alloc (Nat.le_refl _) _⟩
/-- a trace, or none -/
def OTr (w : World) (P : Option Addr) (l : List Ev) : Prop := (P = none ∧ l = []) ∨ ∃ p g, P = some ⟨p, 0, none⟩ ∧ Tr w p g l
theorem oLen_c (w : World) (P : Option Addr) (l : List Ev) (h : OTr w P l) :
    Calls Try.prog 23 #[.pointer P] w fun e w' => e = .returned (.int .i64 (l.length : Int)) ∧ w = w' := by
  rcases h with ⟨rfl, rfl⟩ | ⟨p, g, rfl, h⟩
  · go_enter Try.func23, Try.ntmps23
    go_wp2
    go_ret
    exact ⟨rfl, rfl⟩
  · exact trLen_c w p g l h
/-- Same's answer -/
def SameRes (l k : List Ev) (r : Int) : Prop := (r = -1 ∧ l = k) ∨ ∃ i : Nat, r = i ∧ l.take i = k.take i ∧ l[i]? ≠ k[i]?
theorem SameRes.unique {l k : List Ev} {r s : Int} (h : SameRes l k r) (h2 : SameRes l k s) : r = s := by
  rcases h with ⟨rfl, rfl⟩ | ⟨i, rfl, hi, hn⟩
  · rcases h2 with ⟨rfl, _⟩ | ⟨j, _, _, hj⟩
    · rfl
    · exact absurd rfl hj
  · rcases h2 with ⟨_, rfl⟩ | ⟨j, rfl, hj, hm⟩
    · exact absurd rfl hn
    · have key : ∀ (i j : Nat), l.take j = k.take j → i < j → l[i]? = k[i]? := by
        intro i j e hlt
        have h1 := congrArg (fun t => t[i]?) e
        simpa [List.getElem?_take, hlt] using h1
      rcases Nat.lt_trichotomy i j with h | h | h
      · exact absurd (key i j hj h) hn
      · subst h; rfl
      · exact absurd (key j i hi h) hm
theorem SameRes.symm {l k : List Ev} {r : Int} (h : SameRes l k r) : SameRes k l r := by
  rcases h with ⟨rfl, rfl⟩ | ⟨i, rfl, hi, hn⟩
  · exact .inl ⟨rfl, rfl⟩
  · exact .inr ⟨i, rfl, hi.symm, fun e => hn e.symm⟩
theorem run_eq_ev (w : World) (a b c d x y z u : Int) : (binOp .eql 51 (.agg #[.int .i64 a, .int .i64 b, .int .i64 c, .int .i64 d]) (.agg #[.int .i64 x, .int .i64 y, .int .i64 z, .int .i64 u])).run Try.prog w = .ok (.bool (decide (a = x ∧ b = y ∧ c = z ∧ d = u))) w := by
  by_cases h1 : a = x <;> by_cases h2 : b = y <;> by_cases h3 : c = z <;> by_cases h4 : d = u <;> go_simp
theorem run_neq_ev (w : World) (a b c d x y z u : Int) : (binOp .neq 51 (.agg #[.int .i64 a, .int .i64 b, .int .i64 c, .int .i64 d]) (.agg #[.int .i64 x, .int .i64 y, .int .i64 z, .int .i64 u])).run Try.prog w = .ok (.bool (!decide (a = x ∧ b = y ∧ c = z ∧ d = u))) w := by
  by_cases h1 : a = x <;> by_cases h2 : b = y <;> by_cases h3 : c = z <;> by_cases h4 : d = u <;> go_simp
end Go.Proofs.Ytpihjhfaeloapaa
namespace Go.Proofs.Ytpihjhfaeloapaa
open Go.RowKit On Th
theorem sixteen {l : List Int} (h : l.length = 16) : ∃ r0 r1 r2 r3 r4 r5 r6 r7 r8 r9 r10 r11 r12 r13 r14 r15 : Int, l = [r0, r1, r2, r3, r4, r5, r6, r7, r8, r9, r10, r11, r12, r13, r14, r15] := by
  match l, h with
  | [r0, r1, r2, r3, r4, r5, r6, r7, r8, r9, r10, r11, r12, r13, r14, r15], _ => exact ⟨r0, r1, r2, r3, r4, r5, r6, r7, r8, r9, r10, r11, r12, r13, r14, r15, rfl⟩
theorem wpStill_load_row {P : Program} {ops : Array Oper} {rest : List Oper} {o : Oper} {a : Act} {w : World} {Q : Act → Prop} (hgd : o.guard = none) (ty : TypeId) (x : Operand) (ho : o.op = .load ty x)
    (g : Nat) (hx : a.eval x = .pointer (some ⟨g, 0, none⟩)) (t : TypeId) (cs : Array Value) (fr : Nat × Nat) (d : TypeDesc) (hg : w.heap[g]? = some (.cells cs t fr))
    (hu : P.underlying ty = some d) (hd : (match d with | .struct _ | .array _ _ => true | _ => false) = true) (hi : (P.info? ty).map (·.size) = some cs.size)
    (h : wpStill P ops w Q rest (a.put o.dst (.agg cs))) : wpStill P ops w Q (o :: rest) a := by
  refine wpStill_step (fun K hK => ?_)
  have hw : Region.wanted o (yielded ops a.tmps) = true := by simp [Region.wanted, hgd]
  rw [if_pos hw]
  unfold Oper.still execOp
  simp only [ho, hx, Instr.loadAt, Instr.sureAddr, Sem.run_bind, Sem.run_pure, Result.andThen_ok, run_loadVar_row w g t ty cs fr d hg hu hd hi]
  exact hK _ h |> fun h' => by simpa [Oper.stillUpon] using h'
theorem fetch_at {f : Nat → Int} {a : Int} {i : Ins} {n : Int} (ha : U a) (h : fetchS f a = (i, n, 0)) : a < 131072 ∧ a % 2 = 0 := by
  by_cases hc : a % 2 = 0 ∧ a < 131072
  · exact ⟨hc.2, hc.1⟩
  · exfalso
    obtain ⟨h0, h1⟩ := ha
    have e0 : halfS f (a + 2 * (0 : Nat)) = (0, false) := by unfold halfS; rw [if_neg (by omega)]
    have e1 : halfS f (a + 2 * (1 : Nat)) = (0, false) := by unfold halfS; rw [if_neg (by omega)]
    unfold fetchS at h
    simp only [hsTo, e0, e1] at h
    simp [decS] at h
/-- the record that a step begins with -/
def Ch.sp (c : Ch) (mp : Value) (i : Ins) : Sp := ⟨{ c with R := c.R.set 15 ((c.R.getD 15 0 + (if i.op = 43 then 4 else 2)) % 4294967296) }, mp, i, c.R.getD 15 0, -1, 1, false⟩
/-- a step: the chip, the memory, what shows -/
def stepS (mp : Value) (c : Ch) (f : Nat → Int) : Ch × (Nat → Int) × List Ev :=
  if c.st = 0 then
    (if (fetchS f (c.R.getD 15 0)).2.2 = 0 then
      (if ((c.sp mp (fetchS f (c.R.getD 15 0)).1).exec f).1.fault = true then ({ c with st := 2 }, ((c.sp mp (fetchS f (c.R.getD 15 0)).1).exec f).2, [])
      else ({ ((c.sp mp (fetchS f (c.R.getD 15 0)).1).exec f).1.c with cyc := wrap64 (((c.sp mp (fetchS f (c.R.getD 15 0)).1).exec f).1.c.cyc + ((c.sp mp (fetchS f (c.R.getD 15 0)).1).exec f).1.cost) }, ((c.sp mp (fetchS f (c.R.getD 15 0)).1).exec f).2, [⟨4, c.R.getD 15 0, ((c.sp mp (fetchS f (c.R.getD 15 0)).1).exec f).1.touch, ((c.sp mp (fetchS f (c.R.getD 15 0)).1).exec f).1.cost⟩]))
    else ({ c with st := 2 }, f, []))
  else (c, f, [])
theorem ChW.apart {w : World} {pc m g : Nat} {c : Ch} {f : Nat → Int} (h : ChW w pc c) (hm : MW w m g f) : pc ≠ m ∧ pc ≠ g := by
  obtain ⟨hb, cs, hc, _⟩ := hm
  exact ⟨h.1.ne hb (by decide), h.1.ne hc (by decide)⟩
theorem Tr.blk {w : World} {tp : Nat} {tg : Option Nat} {l : List Ev} (h : Tr w tp tg l) {k : Nat} (hk : TrB tp tg k) : ∃ cs, Blk w k 76 cs ∨ Blk w k 51 cs := by
  obtain ⟨v, h1, h2, h3⟩ := h
  rcases hk with rfl | hk
  · exact ⟨_, .inl h1⟩
  · obtain ⟨A, c, rfl, ⟨rfl, _⟩ | ⟨gg, cur, rfl, _, hg, _⟩⟩ := own_slice h2
    · rw [← h3] at hk; simp [Value.ownBlock] at hk
    · rw [← h3] at hk
      simp [Value.ownBlock] at hk
      subst hk
      exact ⟨cur, .inr hg⟩
theorem Tr.far {w : World} {tp : Nat} {tg : Option Nat} {l : List Ev} (h : Tr w tp tg l) {b : Nat} {t : TypeId} {cs : Array Value} (hb : Blk w b t cs) (h1 : t ≠ 76) (h2 : t ≠ 51) : ¬ TrB tp tg b := fun hk => by
  obtain ⟨cs', h | h⟩ := h.blk hk
  · exact hb.ne h h1 rfl
  · exact hb.ne h h2 rfl
theorem Ch.cells_one (c : Ch) : c.cells.toArray.all (·.oneCell') = true := by
  rw [List.all_toArray, List.all_eq_true]
  intro v hv
  unfold Ch.cells at hv
  rcases List.mem_append.mp hv with h | h
  · rw [List.mem_map] at h; obtain ⟨x, _, rfl⟩ := h; rfl
  · simp at h; rcases h with rfl | rfl | rfl | rfl | rfl | rfl | rfl <;> rfl
theorem ChW.setSt {w : World} {p : Nat} {c : Ch} (h : ChW w p c) (x : Int) : ChW (w.setCell ⟨p, 20, none⟩ (.int .i64 x)) p { c with st := x } := by
  refine ⟨?_, ⟨h.2.len, h.2.u⟩⟩
  have := h.1.set 20 (.int .i64 x)
  rw [List.setIfInBounds_toArray, Ch.set_st h.2] at this
  exact this
theorem info_chip : (Try.prog.info? 44).map (·.size) = some 23 := by kernel_rfl
/-- the blocks that a trace has -/
def TrS (P : Option Addr) (tg : Option Nat) (k : Nat) : Prop := (∃ tp, P = some ⟨tp, 0, none⟩ ∧ k = tp) ∨ (P ≠ none ∧ tg = some k)
/-- what Step does -/
def StepPost (mp : Value) (pc m g : Nat) (P : Option Addr) (tg : Option Nat) (c : Ch) (f : Nat → Int) (l : List Ev) (w : World) (e : Ending) (w' : World) : Prop :=
  e = .returned (.int .i64 (stepS mp c f).1.st) ∧ ChW w' pc (stepS mp c f).1 ∧ MW w' m g (stepS mp c f).2.1 ∧
  ∃ tg', ((P = none ∧ tg' = tg) ∨ ∃ tp, P = some ⟨tp, 0, none⟩ ∧ Tr w' tp tg' (l ++ (stepS mp c f).2.2) ∧ (tg' = tg ∨ ∃ k, tg' = some k ∧ w.heap.size ≤ k)) ∧ Only (fun k => k = pc ∨ k = g ∨ TrS P tg k) w w'
set_option maxHeartbeats 8000000 in
set_option maxRecDepth 100000 in
theorem step_stopped (w : World) (pc m g : Nat) (P : Option Addr) (tg : Option Nat) (c : Ch) (f : Nat → Int) (l : List Ev) (M : Value) (mp : Value) (h : ChW w pc c) (hm : MW w m g f) (ht : ∀ tp, P = some ⟨tp, 0, none⟩ → Tr w tp tg l) (hP : ∀ a, P = some a → ∃ tp, a = ⟨tp, 0, none⟩) (hst : c.st ≠ 0) :
    Calls Try.prog 21 #[.pointer (some ⟨pc, 0, none⟩), M, .pointer P] w (StepPost mp pc m g P tg c f l w) := by
  have hs : stepS mp c f = (c, f, []) := by unfold stepS; rw [if_neg hst]
  unfold StepPost
  rw [hs]
  dsimp only
  have q20 : w.cell? ⟨pc, 20, none⟩ = some (.int .i64 c.st) := by
    rw [h.1.cell, List.getElem?_toArray]; exact Ch.cell_rest h.2 4
  have hb : (c.st != 0) = true := by simp [hst]
  have H := Lib.hid h; have HM := Lib.hid hm; have HT := Lib.hid ht; have HP := Lib.hid hP
  clear h hm ht hP
  generalize c.st = st at *
  clear hst hs
  go_enter Try.func21, Try.ntmps21
  go_wp2_with fail
  go_ret
  refine ⟨rfl, H.out, HM.out, tg, ?_, Only.refl _ _⟩
  cases P with
  | none => exact .inl ⟨rfl, rfl⟩
  | some a =>
    obtain ⟨tp, rfl⟩ := HP.out a rfl
    exact .inr ⟨tp, rfl, by rw [List.append_nil]; exact HT.out tp rfl, .inl rfl⟩
set_option maxHeartbeats 16000000 in
set_option maxRecDepth 100000 in
theorem step_going (w : World) (pc m g : Nat) (P : Option Addr) (tg : Option Nat) (c : Ch) (f : Nat → Int) (l : List Ev) (h : ChW w pc c) (hm : MW w m g f) (ht : ∀ tp, P = some ⟨tp, 0, none⟩ → Tr w tp tg l) (hP : ∀ a, P = some a → ∃ tp, a = ⟨tp, 0, none⟩) (hst : c.st = 0)
    (hl : l.length < 1000) :
    Calls Try.prog 21 #[.pointer (some ⟨pc, 0, none⟩), .pointer (some ⟨m, 0, none⟩), .pointer P] w (StepPost (.pointer (some ⟨m, 0, none⟩)) pc m g P tg c f l w) := by
  have hap := h.apart hm
  have hpl := h.1.lt
  have hgl : g < w.heap.size := by obtain ⟨_, cs, hc, _⟩ := hm; exact hc.lt
  have hml : m < w.heap.size := hm.1.lt
  have hok := h.2
  obtain ⟨X, hX⟩ : ∃ X, stepS (.pointer (some ⟨m, 0, none⟩)) c f = X := ⟨_, rfl⟩
  have HSX := Lib.hid hX
  have HST := Lib.hid hX
  clear hX
  unfold stepS at HST
  rw [if_pos hst] at HST
  have HOKC := Lib.hid hok
  have hU15 := hok.reg (k := 15) (by omega)
  have HU15 := Lib.hid hU15
  have q15 : w.cell? ⟨pc, 15, none⟩ = some (.int .u32 (c.R.getD 15 0)) := by rw [h.1.cell, List.getElem?_toArray]; exact Ch.cell_reg h.2 (by omega)
  have q20 : w.cell? ⟨pc, 20, none⟩ = some (.int .i64 0) := by rw [h.1.cell, List.getElem?_toArray, ← hst]; exact Ch.cell_rest h.2 4
  have z20 := h.1.frozen 20
  have HFC := Lib.hid (fetch_c (w.alloc (.cells #[.int .i64 0, .int .i64 0, .int .i64 0, .int .i64 0, .int .i64 0, .int .i64 0] 36)) m g f (c.R.getD 15 0) (hm.only (S := fun _ => False) ((Only.refl _ _).alloc _) id id) hU15)
  have HFAT := Lib.hid (fun (i : Ins) (n : Int) (h : fetchS f (c.R.getD 15 0) = (i, n, 0)) => fetch_at hU15 h)
  have HFR := Lib.hid (fun (i : Ins) (n : Int) (h : fetchS f (c.R.getD 15 0) = (i, n, 0)) => (dec_R h).1)
  have H := Lib.hid h; have HM := Lib.hid hm; have HT := Lib.hid ht; have HP := Lib.hid hP
  obtain ⟨a0, a1⟩ := HU15.out
  have HS0 := Lib.hid hst
  clear h hm ht hP hok hU15 hst
  have HCS : Hid (∀ i, c.sp (.pointer (some ⟨m, 0, none⟩)) i = ⟨{ c with R := c.R.set 15 ((c.R.getD 15 0 + (if i.op = 43 then 4 else 2)) % 4294967296) }, .pointer (some ⟨m, 0, none⟩), i, c.R.getD 15 0, -1, 1, false⟩) := fun _ => rfl
  generalize c.R.getD 15 0 = at_ at *
  generalize hfs : fetchS f at_ = r at *
  have HFS := Lib.hid hfs
  clear hfs
  obtain ⟨i, n, er⟩ := r
  dsimp only at HST HFC
  by_cases her : er = 0
  · subst her
    rw [if_pos rfl] at HST
    have hiR := HFR.out i n rfl
    obtain ⟨hat1, hat2⟩ := HFAT.out i n rfl
    have HIR := Lib.hid hiR
    clear hiR HFR HFAT
    obtain ⟨r0, r1, r2, r3, r4, r5, r6, r7, r8, r9, r10, r11, r12, r13, r14, r15, hRR⟩ := sixteen HOKC.out.len
    have hB := H.out.1
    unfold Ch.cells at hB
    rw [hRR] at hB
    have HBL : Hid (Blk w pc 44 #[.int .u32 r0, .int .u32 r1, .int .u32 r2, .int .u32 r3, .int .u32 r4, .int .u32 r5, .int .u32 r6, .int .u32 r7, .int .u32 r8, .int .u32 r9, .int .u32 r10, .int .u32 r11, .int .u32 r12, .int .u32 r13, .int .u32 r14, .int .u32 r15, .bool c.nf, .bool c.zf, .bool c.cf, .bool c.vf, .int .i64 c.st, .int .i64 c.num, .int .i64 c.cyc]) := hB
    have HRR := Lib.hid hRR
    clear hB hRR
    go_enter Try.func21, Try.ntmps21
    go_wp2_with fail
    refine (HFC.out).mono ?_
    rintro e w1 ⟨rfl, hb1⟩
    obtain ⟨op, d, nn, mm, imm, cond⟩ := i
    dsimp only
    have HX0 : Hid (Blk w1 w.heap.size 36 #[.int .i64 0, .int .i64 0, .int .i64 0, .int .i64 0, .int .i64 0, .int .i64 0]) := (Blk.new w 36 #[.int .i64 0, .int .i64 0, .int .i64 0, .int .i64 0, .int .i64 0, .int .i64 0]).only (S := fun _ => False) (Only.of_below hb1) id
    have HO1 : Hid (Only (fun _ => False) w w1) := ((Only.refl _ w).alloc _).trans (Only.of_below hb1) (fun _ _ h => h)
    have x0 := HX0.out.cell 0
    have x1 := HX0.out.cell 1
    have x2 := HX0.out.cell 2
    have x3 := HX0.out.cell 3
    have x4 := HX0.out.cell 4
    have x5 := HX0.out.cell 5
    simp at x0 x1 x2 x3 x4 x5
    have z0 := HX0.out.frozen 0
    have z1 := HX0.out.frozen 1
    have z2 := HX0.out.frozen 2
    have z3 := HX0.out.frozen 3
    have z4 := HX0.out.frozen 4
    have z5 := HX0.out.frozen 5
    obtain ⟨wA, hwA⟩ : ∃ wA, wA = (((((w1.setCell ⟨w.heap.size, 0, none⟩ (.int .i64 op)).setCell ⟨w.heap.size, 1, none⟩ (.int .i64 d)).setCell ⟨w.heap.size, 2, none⟩ (.int .i64 nn)).setCell ⟨w.heap.size, 3, none⟩ (.int .i64 mm)).setCell ⟨w.heap.size, 4, none⟩ (.int .i64 imm)).setCell ⟨w.heap.size, 5, none⟩ (.int .i64 cond) := ⟨_, rfl⟩
    have KX : Hid (Blk wA w.heap.size 36 #[.int .i64 op, .int .i64 d, .int .i64 nn, .int .i64 mm, .int .i64 imm, .int .i64 cond]) := by rw [hwA]; exact ((((((HX0.out.set 0 _).set 1 _).set 2 _).set 3 _).set 4 _).set 5 _)
    have HOA : Hid (Only (fun _ => False) w wA) := by rw [hwA]; exact (((((HO1.out.setCell (p := ⟨w.heap.size, 0, none⟩) (.inr (Nat.le_refl _)) _).setCell (p := ⟨w.heap.size, 1, none⟩) (.inr (Nat.le_refl _)) _).setCell (p := ⟨w.heap.size, 2, none⟩) (.inr (Nat.le_refl _)) _).setCell (p := ⟨w.heap.size, 3, none⟩) (.inr (Nat.le_refl _)) _).setCell (p := ⟨w.heap.size, 4, none⟩) (.inr (Nat.le_refl _)) _).setCell (p := ⟨w.heap.size, 5, none⟩) (.inr (Nat.le_refl _)) _
    clear hb1 HFC q15 q20 z20
    go_upto_region 10 with (fail)
    rw [← hwA]
    clear hwA HX0 HO1 x0 x1 x2 x3 x4 x5 z0 z1 z2 z3 z4 z5
    have HBA := Lib.hid (HBL.out.only HOA.out id)
    have x0 := KX.out.cell 0
    have x1 := KX.out.cell 1
    have x2 := KX.out.cell 2
    have x3 := KX.out.cell 3
    have x4 := KX.out.cell 4
    have x5 := KX.out.cell 5
    simp at x0 x1 x2 x3 x4 x5
    have hsA : w.heap.size < wA.heap.size := KX.out.lt
    refine wp_region_still_tail 7 (by kernel_rfl) (by kernel_rfl) ?_
    simp only [List.take_succ_cons, List.take_zero, List.drop_succ_cons, List.drop_zero]
    still_step
    still_step
    refine wpStill_load_row rfl 44 _ rfl pc rfl 44 _ (0, 0) _ HBA.out Try.underlying44 rfl (by kernel_rfl) ?_
    still_step
    still_step
    still_step
    still_step
    refine wpStill_nil ?_
    change wpList _ _ _ _ _ wA.drew
    go_upto_region 11 with (fail)
    obtain ⟨wB, hwB⟩ : ∃ wB, wB = (wA.alloc (.cells (List.toArray (.int .u32 r0 :: .int .u32 r1 :: .int .u32 r2 :: .int .u32 r3 :: .int .u32 r4 :: .int .u32 r5 :: .int .u32 r6 :: .int .u32 r7 :: .int .u32 r8 :: .int .u32 r9 :: .int .u32 r10 :: .int .u32 r11 :: .int .u32 r12 :: .int .u32 r13 :: .int .u32 r14 :: .int .u32 r15 :: .bool c.nf :: .bool c.zf :: .bool c.cf :: .bool c.vf :: .int .i64 c.st :: .int .i64 c.num :: .int .i64 c.cyc :: .pointer (some ⟨m, 0, none⟩) :: .int .i64 op :: .int .i64 d :: .int .i64 nn :: .int .i64 mm :: .int .i64 imm :: .int .i64 cond :: .int .u32 at_ :: .int .i64 (-1) :: .int .i64 1 :: .bool false :: [])) 89)).drew := ⟨_, rfl⟩
    obtain ⟨p, hp⟩ : ∃ p, p = wA.heap.size := ⟨_, rfl⟩
    obtain ⟨c0, hc0⟩ : ∃ c0 : Sp, c0 = ⟨c, .pointer (some ⟨m, 0, none⟩), ⟨op, d, nn, mm, imm, cond⟩, at_, -1, 1, false⟩ := ⟨_, rfl⟩
    have HSB : Hid (SpW wB p c0) := by
      refine ⟨?_, by rw [hc0]; exact HOKC.out⟩
      rw [hc0, hwB, hp]
      unfold Sp.cells Ch.cells
      dsimp only
      rw [HRR.out]
      exact Blk.new wA _ _
    have HOB : Hid (Only (fun _ => False) w wB) := by rw [hwB]; exact (HOA.out.alloc _).drew
    have hpp : w.heap.size < p := by rw [hp]; exact hsA
    have HXB : Hid (Blk wB w.heap.size 36 #[.int .i64 op, .int .i64 d, .int .i64 nn, .int .i64 mm, .int .i64 imm, .int .i64 cond]) := by rw [hwB]; exact (KX.out.alloc _).drew
    rw [← hwB, ← hp]
    clear hwB hp hsA HBA KX HOA x0 x1 x2 x3 x4 x5
    have x0 := HXB.out.cell 0
    have x1 := HXB.out.cell 1
    have x2 := HXB.out.cell 2
    have x3 := HXB.out.cell 3
    have x4 := HXB.out.cell 4
    have x5 := HXB.out.cell 5
    simp at x0 x1 x2 x3 x4 x5
    have hpB := HSB.out.lt
    go_wp2_with fail
    obtain ⟨sz, hsz⟩ : ∃ sz : Int, (if op = 43 then (4 : Int) else 2) = sz := ⟨_, rfl⟩
    have hsz2 : 2 ≤ sz ∧ sz ≤ 4 := by rw [← hsz]; split <;> omega
    obtain ⟨hsz3, hsz4⟩ := hsz2
    have hzc := fun wq => size_c op d nn mm imm cond wq
    simp only [hsz] at hzc
    have HZC := Lib.hid hzc
    have HSZ := Lib.hid hsz
    clear hzc hsz
    go_region_with (go_at_call 35; refine (HZC.out _).mono ?_; rintro e w2 ⟨rfl, hb2⟩; have HS2 := HSB.out.only (S := fun _ => False) (w' := w2) (((Only.refl _ wB).drew).trans (Only.of_below hb2) (fun _ _ h => h)) id; have q15 := HS2.reg (k := 15) (by omega); have z15 := HS2.frozen 15)
    have e15 : IntKind.u32.wrap (at_ + IntKind.u32.wrap sz) = (at_ + sz) % 4294967296 := by rw [IntKind.wrap_u32', IntKind.wrap_u32']; omega
    rw [e15]
    clear e15
    obtain ⟨wC, hwC⟩ : ∃ wC, wC = w2.setCell ⟨p, 15, none⟩ (.int .u32 ((at_ + sz) % 4294967296)) := ⟨_, rfl⟩
    obtain ⟨s0, hs0⟩ : ∃ s0, s0 = c.sp (.pointer (some ⟨m, 0, none⟩)) ⟨op, d, nn, mm, imm, cond⟩ := ⟨_, rfl⟩
    have hs0' := HCS.out ⟨op, d, nn, mm, imm, cond⟩
    rw [← hs0] at hs0'
    dsimp only at hs0'
    rw [HSZ.out] at hs0'
    have HSC : Hid (SpW wC p s0) := by
      rw [hwC, hs0']
      have h2 := HS2.setReg (k := 15) (by omega) (x := (at_ + sz) % 4294967296) (by unfold U; omega)
      rw [hc0] at h2
      exact h2
    have HF0 : Hid (s0.m = .pointer (some ⟨m, 0, none⟩) ∧ s0.i = ⟨op, d, nn, mm, imm, cond⟩ ∧ s0.at_ = at_ ∧ s0.fault = false) := by show _ ∧ _; rw [hs0']; exact ⟨rfl, rfl, rfl, rfl⟩
    have HOC : Hid (Only (fun _ => False) w wC) := by
      rw [hwC]
      exact (HOB.out.trans (((Only.refl _ wB).drew).trans (Only.of_below hb2) (fun _ _ h => h)) (fun _ _ h => h)).setCell (p := ⟨p, 15, none⟩) (.inr (Nat.le_of_lt hpp)) _
    rw [← hs0] at HST
    rw [← hwC]
    clear hwC hs0 hs0' hc0 HS2 q15 z15 hb2 HSB HOB HXB HSZ HZC HCS hpB x0 x1 x2 x3 x4 x5
    have HMC : Hid (MW wC m g f) := HM.out.only HOC.out id id
    have HPM : Hid (p ≠ m ∧ p ≠ g) := by show _ ∧ _; omega
    have HI0 : Hid (InsR s0.i) := by show InsR _; rw [HF0.out.2.1]; exact HIR.out
    have HEX : Hid (s0.exec f = match s0.sums with | some s' => (s', f) | none => match s0.bitw with | some s' => (s', f) | none => match s0.memS f with | some r => r | none => s0.otherS f) := rfl
    have HQ1 := Lib.hid (fun (wq : World) (g' : SpW wq p s0) => sums2_c wq p s0 g' HI0.out)
    have HQ2 := Lib.hid (fun (wq : World) (g' : SpW wq p s0) => bitw2_c wq p s0 g' HI0.out)
    have HQ3 := Lib.hid (fun (wq : World) (g' : SpW wq p s0) (h' : MW wq m g f) => mem2_c wq p m g s0 f g' HI0.out h' HF0.out.1)
    have HQ4 := Lib.hid (fun (wq : World) (g' : SpW wq p s0) (h' : MW wq m g f) => other2_c wq p m g s0 f g' HI0.out h' HF0.out.1 HF0.out.2.2.2 (by rw [HF0.out.2.2.1]; exact a0) (by rw [HF0.out.2.2.1]; exact hat1))
    generalize s0.exec f = ex at *
    obtain ⟨sE, fE⟩ := ex
    generalize s0.otherS f = oS at *
    go_upto_region 12 with (fail)
    go_cut [73] (fun s73 wx => ∃ b : Bool, s73 = .bool b ∧ (b = true → (sE, fE) = oS ∧ SpW wx p s0 ∧ MW wx m g f) ∧ (b = false → SpW wx p sE ∧ MW wx m g fE) ∧ Only (fun k => k = p ∨ k = g) wC wx)
    case first =>
      go_wp2_with fail
      refine (HQ1.out _ HSC.out).mono ?_
      rintro e w3 ⟨rfl, h3, o3⟩
      cases hs : s0.sums with
      | some s1 =>
        rw [hs] at h3 HEX
        have HE : Hid ((sE, fE) = (s1, f)) := HEX.out
        have H3 : Hid (SpW w3 p s1) := h3
        have HM3 : Hid (MW w3 m g f) := HMC.out.only o3 (fun e => HPM.out.1 e.symm) (fun e => HPM.out.2 e.symm)
        have O3 : Hid (Only (fun k => k = p ∨ k = g) wC w3) := o3.mono (fun _ _ e => .inl e)
        clear h3 o3 hs HEX
        dsimp only [Option.isSome]
        go_wp2_with fail
        go_meet
        obtain ⟨rfl, rfl⟩ := Prod.mk.inj HE.out
        exact ⟨false, rfl, by simp, fun _ => ⟨H3.out, HM3.out⟩, O3.out⟩
      | none =>
        rw [hs] at h3 HEX
        have H3 : Hid (SpW w3 p s0) := h3
        have HM3 : Hid (MW w3 m g f) := HMC.out.only o3 (fun e => HPM.out.1 e.symm) (fun e => HPM.out.2 e.symm)
        have O3 : Hid (Only (fun k => k = p) wC w3) := o3
        clear h3 o3 hs
        dsimp only [Option.isSome] at HEX ⊢
        go_wp2_with fail
        refine (HQ2.out _ H3.out).mono ?_
        rintro e w4 ⟨rfl, h4, o4⟩
        cases hs : s0.bitw with
        | some s1 =>
          rw [hs] at h4 HEX
          have HE : Hid ((sE, fE) = (s1, f)) := HEX.out
          have H4 : Hid (SpW w4 p s1) := h4
          have HM4 : Hid (MW w4 m g f) := HM3.out.only o4 (fun e => HPM.out.1 e.symm) (fun e => HPM.out.2 e.symm)
          have O4 : Hid (Only (fun k => k = p ∨ k = g) wC w4) := (O3.out.trans o4 (fun _ _ e => e)).mono (fun _ _ e => .inl e)
          clear h4 o4 hs HEX
          dsimp only [Option.isSome]
          go_wp2_with fail
          go_meet
          obtain ⟨rfl, rfl⟩ := Prod.mk.inj HE.out
          exact ⟨false, rfl, by simp, fun _ => ⟨H4.out, HM4.out⟩, O4.out⟩
        | none =>
          rw [hs] at h4 HEX
          have H4 : Hid (SpW w4 p s0) := h4
          have HM4 : Hid (MW w4 m g f) := HM3.out.only o4 (fun e => HPM.out.1 e.symm) (fun e => HPM.out.2 e.symm)
          have O4 : Hid (Only (fun k => k = p) wC w4) := O3.out.trans o4 (fun _ _ e => e)
          clear h4 o4 hs
          dsimp only [Option.isSome] at HEX ⊢
          go_wp2_with fail
          refine (HQ3.out _ H4.out HM4.out).mono ?_
          rintro e w5 ⟨rfl, h5, m5, o5⟩
          have O5 : Hid (Only (fun k => k = p ∨ k = g) wC w5) := (O4.out.mono (T := fun k => k = p ∨ k = g) (fun _ _ e => .inl e)).trans o5 (fun _ _ e => e)
          cases hs : s0.memS f with
          | some s1 =>
            rw [hs] at h5 m5 HEX
            have HE : Hid ((sE, fE) = s1) := HEX.out
            have H5 : Hid (SpW w5 p s1.1) := h5
            have HM5 : Hid (MW w5 m g s1.2) := m5
            clear h5 m5 o5 hs HEX
            dsimp only [Option.isSome]
            go_wp2_with fail
            go_meet
            exact ⟨false, rfl, by simp, fun _ => by rw [← HE.out] at H5 HM5; exact ⟨H5.out, HM5.out⟩, O5.out⟩
          | none =>
            rw [hs] at h5 m5 HEX
            have H5 : Hid (SpW w5 p s0) := h5
            have HM5 : Hid (MW w5 m g f) := m5
            clear h5 m5 o5 hs
            dsimp only [Option.isSome] at HEX ⊢
            go_wp2_with fail
            go_meet
            exact ⟨true, rfl, fun _ => ⟨HEX.out, H5.out, HM5.out⟩, by simp, O5.out⟩
    case rest =>
    obtain ⟨b, rfl, hbt, hbf, hO⟩ := hcut
    have HBT := Lib.hid hbt; have HBF := Lib.hid hbf; have HO12 := Lib.hid hO
    clear hbt hbf hO HQ1 HQ2 HQ3 HEX HSC HMC
    go_upto_if 73 with (fail)
    go_cut [] (fun wx => SpW wx p sE ∧ MW wx m g fE ∧ Only (fun k => k = p ∨ k = g) wC wx)
    case first =>
      cases b
      · obtain ⟨h1, h2⟩ := HBF.out rfl
        have H1 := Lib.hid h1; have H2 := Lib.hid h2
        clear h1 h2
        go_wp2_with fail
        go_meet
        exact ⟨H1.out, H2.out, HO12.out⟩
      · obtain ⟨h0, h1, h2⟩ := HBT.out rfl
        have H0 := Lib.hid h0; have HQ5 := Lib.hid (HQ4.out _ h1 h2)
        clear h0 h1 h2
        go_wp2_with fail
        refine (HQ5.out).mono ?_
        rintro e w6 ⟨rfl, h6, m6, o6⟩
        rw [← H0.out] at h6 m6
        have H6 := Lib.hid h6; have M6 := Lib.hid m6
        have O6 := Lib.hid (HO12.out.trans o6 (fun _ _ e => e))
        clear h6 m6 o6
        go_wp2_with fail
        go_meet
        exact ⟨H6.out, M6.out, O6.out⟩
    case rest =>
    obtain ⟨hsE, hmE, hOE⟩ := hcut
    have hOT : Only (fun k => k = g) w wc := (HOC.out.mono (T := fun k => k = g) (fun _ _ h => h.elim)).trans hOE (fun i hi h => by rcases h with h | h <;> omega)
    have HCW : Hid (ChW wc pc c) := ⟨H.out.1.only hOT (by omega), HOKC.out⟩
    have HS := Lib.hid hsE; have HMW := Lib.hid hmE; have HOT := Lib.hid hOT
    have hpw : p < wc.heap.size := hsE.lt
    have hcw : pc < wc.heap.size := HCW.out.1.lt
    have HTT : Hid (∀ tp, P = some ⟨tp, 0, none⟩ → Tr wc tp tg l) := fun tp e => (HT.out tp e).keep hOT (fun k hk e' => by
      obtain ⟨_, cs, hc, _⟩ := HM.out
      exact (HT.out tp e).far hc (by decide) (by decide) (e' ▸ hk))
    have HTP : Hid (∀ tp, P = some ⟨tp, 0, none⟩ → ∀ k, TrB tp tg k → k < w.heap.size ∧ k ≠ pc ∧ k ≠ m ∧ k ≠ g) := fun tp e k hk => by
      have ht := HT.out tp e
      refine ⟨ht.lt k hk, fun e' => ?_, fun e' => ?_, fun e' => ?_⟩
      · exact ht.far H.out.1 (by decide) (by decide) (e' ▸ hk)
      · exact ht.far HM.out.1 (by decide) (by decide) (e' ▸ hk)
      · obtain ⟨_, cs, hc, _⟩ := HM.out
        exact ht.far hc (by decide) (by decide) (e' ▸ hk)
    obtain ⟨_, _, _, _, _, _, _, _, r31, r32, r33⟩ := hsE.rest
    obtain ⟨_, _, _, _, _, _, r22⟩ := hsE.flags
    have z22 := hsE.frozen 22
    have q20 : wc.cell? ⟨pc, 20, none⟩ = some (.int .i64 c.st) := by rw [HCW.out.1.cell, List.getElem?_toArray]; exact Ch.cell_rest HOKC.out 4
    have z20 := HCW.out.1.frozen 20
    clear hsE hmE hOE hOT HOC HBT HBF HO12 HQ4 HM H HT HBL
    dsimp only at HST
    cases hf : sE.fault
    · rw [hf] at r33
      have HX2 : Hid (X = ({ sE.c with cyc := wrap64 (sE.c.cyc + sE.cost) }, fE, [⟨4, at_, sE.touch, sE.cost⟩])) := by show _ = _; rw [← HST.out, hf]; rfl
      clear hf HST
      go_wp2_with fail
      go_region
      obtain ⟨wD, hwD⟩ : ∃ wD, wD = (wc.setCell ⟨p, 22, none⟩ (.int .i64 (wrap64 (sE.c.cyc + sE.cost)))).drew := ⟨_, rfl⟩
      have hOD : Only (fun k => k = p) wc wD := by rw [hwD]; exact ((Only.refl (fun k => k = p) wc).setCell (p := ⟨p, 22, none⟩) (.inl rfl) _).drew
      obtain ⟨sF, hsF⟩ : ∃ sF : Sp, sF = { sE with c := { sE.c with cyc := wrap64 (sE.c.cyc + sE.cost) } } := ⟨_, rfl⟩
      have HSD : Hid (SpW wD p sF) := by rw [hwD, hsF]; exact (HS.out.setCyc _).only (S := fun _ => False) ((Only.refl _ _).drew) id
      have HMD : Hid (MW wD m g fE) := HMW.out.only hOD (fun e => HPM.out.1 e.symm) (fun e => HPM.out.2 e.symm)
      have HCD : Hid (ChW wD pc c) := ⟨HCW.out.1.only hOD (by omega), HOKC.out⟩
      have HTD : Hid (∀ tp, P = some ⟨tp, 0, none⟩ → Tr wD tp tg l) := fun tp e => (HTT.out tp e).keep hOD (fun k hk e' => by have := (HTP.out tp e k hk).1; omega)
      have HOD : Hid (Only (fun k => k = g) w wD) := HOT.out.trans hOD (fun i hi h => by omega)
      have HSC2 : Hid (sF.touch = sE.touch ∧ sF.cost = sE.cost ∧ sF.c = { sE.c with cyc := wrap64 (sE.c.cyc + sE.cost) }) := by show _ ∧ _; rw [hsF]; exact ⟨rfl, rfl, rfl⟩
      have HX3 : Hid (X = (sF.c, fE, [⟨4, at_, sF.touch, sF.cost⟩])) := by show _ = _; rw [HX2.out, HSC2.out.1, HSC2.out.2.1, HSC2.out.2.2]
      rw [← hwD]
      clear hwD hOD hsF HSC2 HX2 HS HMW HCW HTT HOT r31 r32 r33 r22 z22 q20 z20
      obtain ⟨_, _, _, _, _, _, _, _, r31, r32, _⟩ := HSD.out.rest
      have hpD : p < wD.heap.size := HSD.out.lt
      cases P with
      | none =>
      have HSW := HSD
      have HCW2 := HCD
      have HRG : Hid (wD.rangeAt p 0 sF.c.cells) := fun j v hv => by
        have hj : j < 23 := by have := (List.getElem?_eq_some_iff.mp hv).1; rwa [Ch.cells_len HSW.out.2] at this
        rw [Nat.zero_add, HSW.out.1.cell, List.getElem?_toArray, Sp.cell_c HSW.out.2 hj]; exact hv
      have HSZ2 : Hid ((Try.prog.info? 44).map (·.size) = some sF.c.cells.length) := by show _ = _; rw [info_chip, Ch.cells_len HSW.out.2]
      have HSZ3 : Hid ((Try.prog.info? 44).map (·.size) = some sF.c.cells.toArray.size) := by show _ = _; rw [info_chip, List.size_toArray, Ch.cells_len HSW.out.2]
      have HSZ4 : Hid (c.cells.toArray.size = sF.c.cells.toArray.size) := by show _ = _; rw [List.size_toArray, List.size_toArray, Ch.cells_len HOKC.out, Ch.cells_len HSW.out.2]
      have HZB : Hid (ChW (wD.setRow pc sF.c.cells.toArray) pc sF.c) := ⟨setRow_heap _ _ _ _ _ _ HCW2.out.1, HSW.out.2⟩
      have HZO : Hid (Only (fun k => k = pc) wD (wD.setRow pc sF.c.cells.toArray)) := ⟨rfl, rfl, rfl, by simp [World.setRow], fun i _ hn => setRow_other _ _ _ _ hn⟩
      have q20z : (wD.setRow pc sF.c.cells.toArray).cell? ⟨pc, 20, none⟩ = some (.int .i64 sF.c.st) := by rw [HZB.out.1.cell, List.getElem?_toArray]; exact Ch.cell_rest HZB.out.2 4
      go_wp2_with (first | refine wpList_load_mid rfl 44 _ rfl p 0 rfl sF.c.cells _ HRG.out Try.underlying44 rfl HSZ2.out ?_ | refine wpList_store_row rfl 44 _ _ rfl pc sF.c.cells.toArray rfl rfl 44 c.cells.toArray HCW2.out.1 HSZ3.out HSZ4.out (Ch.cells_one _) ?_)
      go_ret
      unfold StepPost
      rw [HSX.out, HX3.out]
      dsimp only
      exact ⟨rfl, HZB.out, HMD.out.only HZO.out (fun e => hap.1 e.symm) (fun e => hap.2 e.symm), tg, .inl ⟨rfl, rfl⟩, (HOD.out.mono (T := fun k => k = pc ∨ k = g ∨ TrS none tg k) (fun _ _ e => .inr (.inl e))).trans HZO.out (fun _ _ e => .inl e)⟩
      | some a =>
      obtain ⟨tp, rfl⟩ := HP.out a rfl
      have HTQ := Lib.hid (HTP.out tp rfl)
      have HAD := Lib.hid (fun (wq : World) (ht' : Tr wq tp tg l) => trAdd_c wq tp tg l ⟨4, at_, sF.touch, sF.cost⟩ ht' (by omega))
      have HTD2 := Lib.hid (HTD.out tp rfl)
      dsimp only at HAD
      go_wp2_with fail
      go_still_tail 11, (by kernel_rfl)
      change wpList _ _ _ _ _ wD.drew
      have hOd : Only (fun _ => False) wD wD.drew := (Only.refl _ _).drew
      go_wp2_with fail
      refine (HAD.out _ (HTD2.out.keep hOd (fun _ _ => id))).mono ?_
      rintro e wG ⟨rfl, tg', ht', hg', oG⟩
      have hOG : Only (TrB tp tg) wD wG := (hOd.mono (T := TrB tp tg) (fun _ _ h => h.elim)).trans oG (fun _ _ h => h)
      have HSW : Hid (SpW wG p sF) := HSD.out.only hOG (fun hk => by have := (HTQ.out p hk).1; omega)
      have HCW2 : Hid (ChW wG pc c) := ⟨HCD.out.1.only hOG (fun hk => (HTQ.out pc hk).2.1 rfl), HOKC.out⟩
      have HMG : Hid (MW wG m g fE) := HMD.out.only hOG (fun hk => (HTQ.out m hk).2.2.1 rfl) (fun hk => (HTQ.out g hk).2.2.2 rfl)
      have HTG := Lib.hid ht'
      have HGG : Hid (tg' = tg ∨ ∃ k, tg' = some k ∧ w.heap.size ≤ k) := by
        rcases hg' with h | ⟨k, h1, h2⟩
        · exact .inl h
        · refine .inr ⟨k, h1, Nat.le_trans HOD.out.size h2⟩
      have HNG : Hid (∀ k, TrB tp tg' k → k ≠ pc) := fun k hk e => by
        exact ht'.far HCW2.out.1 (by decide) (by decide) (e ▸ hk)
      have HOG : Hid (Only (fun k => k = pc ∨ k = g ∨ TrS (some ⟨tp, 0, none⟩) tg k) w wG) := (HOD.out.mono (T := fun k => k = pc ∨ k = g ∨ TrS (some ⟨tp, 0, none⟩) tg k) (fun _ _ e => .inr (.inl e))).trans hOG (fun _ _ h => by
        rcases h with h | h
        · exact .inr (.inr (.inl ⟨tp, rfl, h⟩))
        · exact .inr (.inr (.inr ⟨by simp, h⟩)))
      clear ht' hg' oG hOG hOd r31 r32 HTD HTD2 HAD
      have HRG : Hid (wG.rangeAt p 0 sF.c.cells) := fun j v hv => by
        have hj : j < 23 := by have := (List.getElem?_eq_some_iff.mp hv).1; rwa [Ch.cells_len HSW.out.2] at this
        rw [Nat.zero_add, HSW.out.1.cell, List.getElem?_toArray, Sp.cell_c HSW.out.2 hj]; exact hv
      have HSZ2 : Hid ((Try.prog.info? 44).map (·.size) = some sF.c.cells.length) := by show _ = _; rw [info_chip, Ch.cells_len HSW.out.2]
      have HSZ3 : Hid ((Try.prog.info? 44).map (·.size) = some sF.c.cells.toArray.size) := by show _ = _; rw [info_chip, List.size_toArray, Ch.cells_len HSW.out.2]
      have HSZ4 : Hid (c.cells.toArray.size = sF.c.cells.toArray.size) := by show _ = _; rw [List.size_toArray, List.size_toArray, Ch.cells_len HOKC.out, Ch.cells_len HSW.out.2]
      have HZB : Hid (ChW (wG.setRow pc sF.c.cells.toArray) pc sF.c) := ⟨setRow_heap _ _ _ _ _ _ HCW2.out.1, HSW.out.2⟩
      have HZO : Hid (Only (fun k => k = pc) wG (wG.setRow pc sF.c.cells.toArray)) := ⟨rfl, rfl, rfl, by simp [World.setRow], fun i _ hn => setRow_other _ _ _ _ hn⟩
      have q20z : (wG.setRow pc sF.c.cells.toArray).cell? ⟨pc, 20, none⟩ = some (.int .i64 sF.c.st) := by rw [HZB.out.1.cell, List.getElem?_toArray]; exact Ch.cell_rest HZB.out.2 4
      go_wp2_with (first | refine wpList_load_mid rfl 44 _ rfl p 0 rfl sF.c.cells _ HRG.out Try.underlying44 rfl HSZ2.out ?_ | refine wpList_store_row rfl 44 _ _ rfl pc sF.c.cells.toArray rfl rfl 44 c.cells.toArray HCW2.out.1 HSZ3.out HSZ4.out (Ch.cells_one _) ?_)
      go_ret
      unfold StepPost
      rw [HSX.out, HX3.out]
      dsimp only
      exact ⟨rfl, HZB.out, HMG.out.only HZO.out (fun e => hap.1 e.symm) (fun e => hap.2 e.symm), tg', .inr ⟨tp, rfl, HTG.out.keep HZO.out HNG.out, HGG.out⟩, HOG.out.trans HZO.out (fun _ _ e => .inl e)⟩
    · rw [hf] at r33
      have HX2 : Hid (X = ({ c with st := 2 }, fE, [])) := by show _ = _; rw [← HST.out, hf]; rfl
      clear hf HST
      go_wp2_with fail
      go_ret
      unfold StepPost
      rw [HSX.out, HX2.out]
      dsimp only
      have hO2 : Only (fun k => k = pc) wc (wc.setCell ⟨pc, 20, none⟩ (.int .i64 2)) := (Only.refl (fun k => k = pc) wc).setCell (p := ⟨pc, 20, none⟩) (.inl rfl) _
      refine ⟨rfl, HCW.out.setSt 2, HMW.out.only hO2 (fun e => hap.1 e.symm) (fun e => hap.2 e.symm), tg, ?_, (HOT.out.mono (T := fun k => k = pc ∨ k = g ∨ TrS P tg k) (fun _ _ e => .inr (.inl e))).setCell (p := ⟨pc, 20, none⟩) (.inl (.inl rfl)) _⟩
      cases P with
      | none => exact .inl ⟨rfl, rfl⟩
      | some a =>
        obtain ⟨tp, rfl⟩ := HP.out a rfl
        exact .inr ⟨tp, rfl, by rw [List.append_nil]; exact (HTT.out tp rfl).keep hO2 (fun k hk e => (HTP.out tp rfl k hk).2.1 e), .inl rfl⟩
  · rw [if_neg her] at HST
    have hX2 : X = ({ c with st := 2 }, f, []) := HST.out.symm
    have herb : (er != 0) = true := by simp [her]
    obtain ⟨op, d, nn, mm, imm, cond⟩ := i
    dsimp only at HFC
    go_enter Try.func21, Try.ntmps21
    go_wp2_with fail
    refine (HFC.out).mono ?_
    rintro e w1 ⟨rfl, hb1⟩
    have HX0 : Hid (Blk w1 w.heap.size 36 #[.int .i64 0, .int .i64 0, .int .i64 0, .int .i64 0, .int .i64 0, .int .i64 0]) := (Blk.new w 36 #[.int .i64 0, .int .i64 0, .int .i64 0, .int .i64 0, .int .i64 0, .int .i64 0]).only (S := fun _ => False) (Only.of_below hb1) id
    have HO1 : Hid (Only (fun _ => False) w w1) := ((Only.refl _ w).alloc _).trans (Only.of_below hb1) (fun _ _ h => h)
    have x0 := HX0.out.cell 0
    have x1 := HX0.out.cell 1
    have x2 := HX0.out.cell 2
    have x3 := HX0.out.cell 3
    have x4 := HX0.out.cell 4
    have x5 := HX0.out.cell 5
    simp at x0 x1 x2 x3 x4 x5
    have z0 := HX0.out.frozen 0
    have z1 := HX0.out.frozen 1
    have z2 := HX0.out.frozen 2
    have z3 := HX0.out.frozen 3
    have z4 := HX0.out.frozen 4
    have z5 := HX0.out.frozen 5
    have HC1 : Hid (ChW w1 pc c) := ⟨H.out.1.only HO1.out id, HOKC.out⟩
    clear q20 z20 q15
    have q20 : w1.cell? ⟨pc, 20, none⟩ = some (.int .i64 c.st) := by rw [HC1.out.1.cell, List.getElem?_toArray]; exact Ch.cell_rest HOKC.out 4
    have z20 := HC1.out.1.frozen 20
    have hne : pc ≠ w.heap.size := by omega
    clear hb1 HFC
    obtain ⟨wA, hwA⟩ : ∃ wA, wA = (((((w1.setCell ⟨w.heap.size, 0, none⟩ (.int .i64 op)).setCell ⟨w.heap.size, 1, none⟩ (.int .i64 d)).setCell ⟨w.heap.size, 2, none⟩ (.int .i64 nn)).setCell ⟨w.heap.size, 3, none⟩ (.int .i64 mm)).setCell ⟨w.heap.size, 4, none⟩ (.int .i64 imm)).setCell ⟨w.heap.size, 5, none⟩ (.int .i64 cond) := ⟨_, rfl⟩
    have HOA : Hid (Only (fun _ => False) w wA) := by rw [hwA]; exact (((((HO1.out.setCell (p := ⟨w.heap.size, 0, none⟩) (.inr (Nat.le_refl _)) _).setCell (p := ⟨w.heap.size, 1, none⟩) (.inr (Nat.le_refl _)) _).setCell (p := ⟨w.heap.size, 2, none⟩) (.inr (Nat.le_refl _)) _).setCell (p := ⟨w.heap.size, 3, none⟩) (.inr (Nat.le_refl _)) _).setCell (p := ⟨w.heap.size, 4, none⟩) (.inr (Nat.le_refl _)) _).setCell (p := ⟨w.heap.size, 5, none⟩) (.inr (Nat.le_refl _)) _
    go_upto_region 7 with (fail)
    rw [← hwA]
    clear hwA x0 x1 x2 x3 x4 x5 z0 z1 z2 z3 z4 z5 q20 z20 HC1 HX0 HO1
    have HCA : Hid (ChW wA pc c) := ⟨H.out.1.only HOA.out id, HOKC.out⟩
    have q20 : wA.cell? ⟨pc, 20, none⟩ = some (.int .i64 c.st) := by rw [HCA.out.1.cell, List.getElem?_toArray]; exact Ch.cell_rest HOKC.out 4
    have z20 := HCA.out.1.frozen 20
    clear her
    go_wp2_with fail
    go_ret
    unfold StepPost
    rw [HSX.out, hX2]
    dsimp only
    have hO2 : Only (fun k => k = pc) wA (wA.setCell ⟨pc, 20, none⟩ (.int .i64 2)) := (Only.refl (fun k => k = pc) wA).setCell (p := ⟨pc, 20, none⟩) (.inl rfl) _
    refine ⟨rfl, HCA.out.setSt 2, (HM.out.only HOA.out id id).only hO2 (fun e => hap.1 e.symm) (fun e => hap.2 e.symm), tg, ?_, (HOA.out.mono (T := fun k => k = pc ∨ k = g ∨ TrS P tg k) (fun _ _ e => e.elim)).setCell (p := ⟨pc, 20, none⟩) (.inl (.inl rfl)) _⟩
    cases P with
    | none => exact .inl ⟨rfl, rfl⟩
    | some a =>
      obtain ⟨tp, rfl⟩ := HP.out a rfl
      exact .inr ⟨tp, rfl, by rw [List.append_nil]; exact ((HT.out tp rfl).keep HOA.out (fun _ _ => id)).keep hO2 (fun k hk e => (HT.out tp rfl).far H.out.1 (by decide) (by decide) (e ▸ hk)), .inl rfl⟩
theorem step_c (w : World) (pc m g : Nat) (P : Option Addr) (tg : Option Nat) (c : Ch) (f : Nat → Int) (l : List Ev) (h : ChW w pc c) (hm : MW w m g f) (ht : ∀ tp, P = some ⟨tp, 0, none⟩ → Tr w tp tg l) (hP : ∀ a, P = some a → ∃ tp, a = ⟨tp, 0, none⟩) (hl : l.length < 1000) :
    Calls Try.prog 21 #[.pointer (some ⟨pc, 0, none⟩), .pointer (some ⟨m, 0, none⟩), .pointer P] w (StepPost (.pointer (some ⟨m, 0, none⟩)) pc m g P tg c f l w) := by
  by_cases hst : c.st = 0
  · exact step_going w pc m g P tg c f l h hm ht hP hst hl
  · exact step_stopped w pc m g P tg c f l _ _ h hm ht hP hst
end Go.Proofs.Ytpihjhfaeloapaa
