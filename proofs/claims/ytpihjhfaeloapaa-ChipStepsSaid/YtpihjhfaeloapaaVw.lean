/- MERGED by mergev.py: XRows2 XQk. -/
import Derived.Test.YtpihjhfaeloapaaView
import Derived.Test.YtpihjhfaeloapaaVa
import Derived.Test.YtpihjhfaeloapaaVv
import Derived.Test.YtpihjhfaeloapaaCy
import Derived.BigRegion
import Derived.Deep.RegionHeld3
import Derived.StillTailTactics
namespace Go.Proofs.Vw
open Go.RowKit Go.Proofs.On
/-- n rows of k cells each, from an address on -/
structure RowsOf (w : World) (A : Option Addr) (n k : Nat) (R : List Value → Prop) : Prop where
  none_ : A = none → n = 0
  cell : ∀ b o s i, A = some ⟨b, o, s⟩ → i < n → s = none ∧ b < w.heap.size ∧ ∃ es, es.length = k ∧ R es ∧ ∀ j, j < k → w.cell? ⟨b, o + i * k + j, none⟩ = es[j]?
section
variable {P : Program} {w : World} {t e : TypeId} {v : Value} {k : Nat}
theorem rows_of (hk : 0 < k) {a : Addr} {n : Nat} (h : ∀ i, i < n → ∃ es, w.cells? 0 (a.add (i * k)) k = some es ∧ Viewed P w e es) : RowsOf w (some a) n k (Viewed P w e) := by
  refine ⟨nofun, ?_⟩
  rintro b o s i hA hi
  injection hA with hA; subst hA
  obtain ⟨es, h1, h2⟩ := h i hi
  obtain ⟨h3, h4⟩ := cells_at h1
  have hs : s = none := by
    by_cases e : i * k = 0
    · have k0 := h4 0 hk
      rw [e, add_zero, add_zero] at k0
      rw [List.getElem?_eq_getElem (by omega)] at k0
      exact World.cell?_spot k0
    · obtain ⟨es', g1, _⟩ := h 0 (by omega)
      obtain ⟨g3, g4⟩ := cells_at g1
      have k0 := g4 0 hk
      rw [Nat.zero_mul, add_zero, add_zero, List.getElem?_eq_getElem (by omega)] at k0
      exact World.cell?_spot k0
  subst hs
  simp only [add_none] at h4
  refine ⟨rfl, ?_, es, h3, h2, h4⟩
  have k0 := h4 0 hk
  rw [List.getElem?_eq_getElem (by omega)] at k0
  exact World.block_lt_of_cell? w ⟨b, _, none⟩ k0
theorem Arg.rows (hu : P.underlying t = some (.slice e)) (hc : P.cellsOf e = k) (hk : 0 < k) (h : Arg P w t v) :
    ∃ A n c, v = .slice A n c ∧ n ≤ c ∧ c ≤ maxLen ∧ c * P.bytesOf e ≤ reachBytes ∧ RowsOf w A n k (Viewed P w e) := by
  rcases h.slice hu with rfl | ⟨a, n, c, rfl, h1, h2, h3, h4⟩
  · exact ⟨none, 0, 0, rfl, Nat.le_refl _, by simp [maxLen], by simp, ⟨fun _ => rfl, fun b o s i hA hi => by omega⟩⟩
  · rw [hc] at h4
    exact ⟨some a, n, c, rfl, h1, h2, h3, rows_of hk (fun i hi => h4 i (by omega))⟩
theorem viewed_rows {cs : List Value} (hu : P.underlying t = some (.slice e)) (hc : P.cellsOf e = k) (hk : 0 < k) (h : Viewed P w t cs) :
    ∃ A n c, cs = [.slice A n c] ∧ n ≤ c ∧ c ≤ maxLen ∧ c * P.bytesOf e ≤ reachBytes ∧ RowsOf w A n k (Viewed P w e) := by
  rcases viewed_slice hu h with rfl | ⟨a, n, c, rfl, h1, h2, h3, h4⟩
  · exact ⟨none, 0, 0, rfl, Nat.le_refl _, by simp [maxLen], by simp, ⟨fun _ => rfl, fun b o s i hA hi => by omega⟩⟩
  · rw [hc] at h4
    exact ⟨some a, n, c, rfl, h1, h2, h3, rows_of hk (fun i hi => h4 i (by omega))⟩
/-- a row that is one cell -/
theorem viewed_ints2 {cs : List Value} {q : IntKind} (hu : P.underlying t = some (.slice e)) (he : P.underlying e = some (.int q)) (hc : P.cellsOf e = 1) (h : Viewed P w t cs) :
    ∃ A n c xs, cs = [.slice A n c] ∧ n ≤ c ∧ c ≤ maxLen ∧ List.length xs = n ∧ (∀ x ∈ xs, (Lit.int q x).wf = true) ∧ (A = none → n = 0) ∧
      ∀ b o s i, A = some ⟨b, o, s⟩ → i < n → s = none ∧ b < w.heap.size ∧ w.cell? ⟨b, o + i, none⟩ = some (.int q (xs.getD i 0)) := by
  rcases viewed_slice hu h with rfl | ⟨a, n, c, rfl, h1, h2, h3, h4⟩
  · exact ⟨none, 0, 0, [], rfl, Nat.le_refl _, by simp [maxLen], rfl, by simp, fun _ => rfl, fun b o s i hA hi => by omega⟩
  · obtain ⟨xs, g1, g2, g3, g4⟩ := viewed_ints he hc (cap := n) (fun i hi => h4 i (by omega))
    refine ⟨some a, n, c, xs, rfl, h1, h2, g1, g2, nofun, ?_⟩
    rintro b o s i hA hi
    injection hA with hA; subst hA
    have hs := g3 (by omega); simp at hs; subst hs
    exact ⟨rfl, World.block_lt_of_cell? w ⟨b, _, none⟩ (g4 i hi), g4 i hi⟩
end
end Go.Proofs.Vw
namespace Go.Proofs.Ytpihjhfaeloapaa
open Go.RowKit On Th
theorem cells_raw : Try.prog.cellsOf 38 = 6 := by kernel_rfl
theorem cells_int1 : Try.prog.cellsOf 3 = 1 := by kernel_rfl
theorem cells_u32k : Try.prog.cellsOf 41 = 1 := by kernel_rfl
set_option maxRecDepth 100000 in
theorem viewed_raw {w : World} {es : List Value} (h : Vw.Viewed Try.prog w 38 es) :
    ∃ x0 x1 x2 x3 x4 x5 : Int, es = [.int .i64 x0, .int .i64 x1, .int .i64 x2, .int .i64 x3, .int .i64 x4, .int .i64 x5] := by
  obtain ⟨hl, hf⟩ := Vw.viewed_struct Try.underlying38 h
  rw [cells_raw] at hl
  have f0 : Vw.Viewed Try.prog w 3 ((es.drop 0).take (Try.prog.cellsOf 3)) := hf 0 _ rfl
  have f1 : Vw.Viewed Try.prog w 3 ((es.drop 1).take (Try.prog.cellsOf 3)) := hf 1 _ rfl
  have f2 : Vw.Viewed Try.prog w 3 ((es.drop 2).take (Try.prog.cellsOf 3)) := hf 2 _ rfl
  have f3 : Vw.Viewed Try.prog w 3 ((es.drop 3).take (Try.prog.cellsOf 3)) := hf 3 _ rfl
  have f4 : Vw.Viewed Try.prog w 3 ((es.drop 4).take (Try.prog.cellsOf 3)) := hf 4 _ rfl
  have f5 : Vw.Viewed Try.prog w 3 ((es.drop 5).take (Try.prog.cellsOf 3)) := hf 5 _ rfl
  rw [cells_int1] at f0 f1 f2 f3 f4 f5
  obtain ⟨n0, e0, _⟩ := Vw.viewed_int Try.underlying3 f0
  obtain ⟨n1, e1, _⟩ := Vw.viewed_int Try.underlying3 f1
  obtain ⟨n2, e2, _⟩ := Vw.viewed_int Try.underlying3 f2
  obtain ⟨n3, e3, _⟩ := Vw.viewed_int Try.underlying3 f3
  obtain ⟨n4, e4, _⟩ := Vw.viewed_int Try.underlying3 f4
  obtain ⟨n5, e5, _⟩ := Vw.viewed_int Try.underlying3 f5
  match es, hl with
  | [a, b, c', d, e, f], _ =>
    simp at e0 e1 e2 e3 e4 e5
    subst e0; subst e1; subst e2; subst e3; subst e4; subst e5
    exact ⟨_, _, _, _, _, _, rfl⟩
/-- words that came in -/
def WordsIn (w : World) (A : Option Addr) (n : Nat) : Prop := ∀ k, k < n → ∃ b o x, A = some ⟨b, o, none⟩ ∧ b < w.heap.size ∧ w.cell? ⟨b, o + k, none⟩ = some (.int .u32 x) ∧ U x
theorem WordsIn.only {w w' : World} {A : Option Addr} {n : Nat} {S : Nat → Prop} (h : WordsIn w A n) (ho : Only S w w') (hn : ∀ b, b < w.heap.size → ¬ S b) : WordsIn w' A n := fun k hk => by
  obtain ⟨b, o, x, h1, h2, h3, h4⟩ := h k hk
  exact ⟨b, o, x, h1, Nat.lt_of_lt_of_le h2 ho.size, by rw [ho.cell (p := ⟨b, o + k, none⟩) h2 (hn b h2)]; exact h3, h4⟩
theorem arg_words {w : World} {v : Value} (u : Vw.Arg Try.prog w 23 v) : ∃ A n c, v = .slice A n c ∧ (n : Int) ≤ 140737488351232 ∧ WordsIn w A n := by
  obtain ⟨A, n, c, rfl, h1, _, h3, hr⟩ := Vw.Arg.rows Try.underlying23 cells_u32k (by omega) u
  have hb : Try.prog.bytesOf 41 = 4 := by kernel_rfl
  rw [hb] at h3
  unfold reachBytes at h3
  refine ⟨A, n, c, rfl, by omega, fun k hk => ?_⟩
  cases A with
  | none => have := hr.none_ rfl; omega
  | some ad =>
    obtain ⟨b, o, s⟩ := ad
    obtain ⟨rfl, hbw, es, hl, hv, hc⟩ := hr.cell b o s k rfl hk
    obtain ⟨x, rfl, hw⟩ := Vw.viewed_int Try.underlying41 hv
    have h0 := hc 0 (by omega)
    simp [Lit.wf, IntKind.min, IntKind.max, IntKind.signed, IntKind.bits] at hw
    rw [Nat.mul_one, Nat.add_zero] at h0
    exact ⟨b, o, x, rfl, hbw, h0, by unfold U; omega⟩
/-- what begin leaves -/
def BegAt (pc : Nat) (c : Ch) (w : World) (w' : World) : Prop := ∃ c', ChW w' pc c' ∧ c'.st = c.st ∧ c'.num = c.num ∧ c'.cyc = c.cyc ∧ Only (fun k => k = pc) w w'
set_option maxHeartbeats 8000000 in
set_option maxRecDepth 100000 in
theorem begin_c (w : World) (pc : Nat) (c : Ch) (A : Option Addr) (n cp : Nat) (how : Int) (h : ChW w pc c) (hr : WordsIn w A n) (hn : (n : Int) ≤ 140737488351232) (hne : ∀ b o s, A = some ⟨b, o, s⟩ → 0 < n → b ≠ pc) :
    Calls Try.prog 20 #[.pointer (some ⟨pc, 0, none⟩), .slice A n cp, .int .i64 how] w fun e w' => e = .returned (.tuple #[]) ∧ ∃ c', ChW w' pc c' ∧ c'.st = c.st ∧ c'.num = c.num ∧ c'.cyc = c.cyc ∧ c'.R.getD 15 0 = 100 ∧ Only (fun k => k = pc) w w' := by
  have H := Lib.hid h; have HR := Lib.hid hr; have HNE := Lib.hid hne; have HNN := Lib.hid hn
  clear h hr hne hn
  go_enter Try.func20, Try.ntmps20
  go_wp2_with fail
  go_loopw [6] (fun s6 wx => ∃ k : Nat, k ≤ 13 ∧ s6 = .int .i64 k ∧ BegAt pc c w wx) (fun i _ => 13 - (intOf i).toNat)
  case atStart => exact ⟨0, by omega, rfl, c, H.out, rfl, rfl, rfl, Only.refl _ _⟩
  case round =>
    obtain ⟨k, hk, rfl, c1, hc, e1, e2, e3, ho⟩ := hrel
    have HE := Lib.hid (show c1.st = c.st ∧ c1.num = c.num ∧ c1.cyc = c.cyc from ⟨e1, e2, e3⟩)
    have HC := Lib.hid hc; have HO := Lib.hid ho
    clear e1 e2 e3
    by_cases h13 : k < 13
    · by_cases hkn : k < n
      · obtain ⟨b, o, x, rfl, hb, hx, hu⟩ := HR.out k hkn
        have hbp := HNE.out b o none rfl (by omega)
        have cx : wr.cell? ⟨b, o + k, none⟩ = some (.int .u32 x) := by rw [ho.cell (p := ⟨b, o + k, none⟩) hb hbp]; exact hx
        have ck := hc.reg (k := k) (by omega)
        have zk := hc.frozen k
        have HC2 := Lib.hid (hc.setReg (k := k) (x := x) (by omega) hu)
        have HO2 := Lib.hid ((ho.setCell (p := ⟨pc, k, none⟩) (.inl rfl) (.int .u32 x)).drew)
        obtain ⟨hu0, hu1⟩ := hu
        have HX0 : Hid (w.cell? ⟨b, o + k, none⟩ = some (.int .u32 x)) := hx
        clear hc ho hx HC HO
        generalize c1.R.getD k 0 = y0 at *
        have h13' : (k : Int) < 13 := by omega
        have hkn' : (k : Int) < (n : Int) := by omega
        clear h13 hkn
        go_upto_region 3 with (fail)
        go_region
        go_upto_region 4 with (fail)
        obtain ⟨c2, hc2, HE2⟩ : ∃ c2 : Ch, c2 = { c1 with R := c1.R.set k x } ∧ Hid (c2.st = c.st ∧ c2.num = c.num ∧ c2.cyc = c.cyc) := ⟨_, rfl, HE.out⟩
        rw [← hc2] at HC2
        obtain ⟨w1, hw1⟩ : ∃ w1, w1 = (wr.setCell ⟨pc, k, none⟩ (.int .u32 x)).drew := ⟨_, rfl⟩
        have HC3 : Hid (ChW w1 pc c2) := by rw [hw1]; exact ⟨HC2.out.1.drew, HC2.out.2⟩
        rw [← hw1] at HO2 ⊢
        have hlt0 : b < w1.heap.size := Nat.lt_of_lt_of_le hb HO2.out.size
        have cx1 : w1.cell? ⟨b, o + k, none⟩ = some (.int .u32 x) := by rw [HO2.out.cell (p := ⟨b, o + k, none⟩) hb hbp]; exact HX0.out
        have ck1 := HC3.out.reg (k := k) (by omega)
        have zk1 := HC3.out.frozen k
        clear hw1 hc2 HC2 HE cx ck zk
        generalize c2.R.getD k 0 = y at *
        go_wp2_with fail
        refine (pickN _ 5 (by decide) (by decide) _).mono ?_
        rintro e w' ⟨rfl, rfl⟩
        obtain ⟨z, hz⟩ : ∃ z, wrap64 (x % 7 + how) % 5 = z := ⟨_, rfl⟩
        rw [hz]
        clear hz
        have HU1 : U (131072 + x % 256 * 4) := by unfold U; omega
        have HU2 : U (x % 40) := by unfold U; omega
        have HC4 := Lib.hid (HC3.out.setReg (k := k) (x := 131072 + x % 256 * 4) (by omega) HU1)
        have HC5 := Lib.hid (HC3.out.setReg (k := k) (x := x % 40) (by omega) HU2)
        have HO4 := Lib.hid ((HO2.out.setCell (p := ⟨pc, k, none⟩) (.inl rfl) (.int .u32 (131072 + x % 256 * 4))).drew)
        have HO5 := Lib.hid ((HO2.out.setCell (p := ⟨pc, k, none⟩) (.inl rfl) (.int .u32 (x % 40))).drew)
        clear HU1 HU2
        by_cases h0 : z = 0
        · subst h0
          go_wp2_with fail
          go_region
          go_wp2_with fail
          exact ⟨⟨k + 1, by omega, by go_num, _, ⟨HC4.out.1.drew, HC4.out.2⟩, HE2.out.1, HE2.out.2.1, HE2.out.2.2, HO4.out⟩, by simp [intOf]; omega⟩
        · by_cases h1 : z = 1
          · subst h1
            go_wp2_with fail
            go_region
            go_wp2_with fail
            exact ⟨⟨k + 1, by omega, by go_num, _, ⟨HC5.out.1.drew, HC5.out.2⟩, HE2.out.1, HE2.out.2.1, HE2.out.2.2, HO5.out⟩, by simp [intOf]; omega⟩
          · have e0 : (z == 0) = false := by simp [h0]
            have e1 : (z == 1) = false := by simp [h1]
            clear h0 h1
            go_wp2_with fail
            exact ⟨⟨k + 1, by omega, by go_num, _, HC3.out, HE2.out.1, HE2.out.2.1, HE2.out.2.2, HO2.out⟩, by simp [intOf]; omega⟩
      · have h13' : (k : Int) < 13 := by omega
        have hkn' : ¬ (k : Int) < (n : Int) := by omega
        clear hc ho h13 hkn hk
        generalize hpk : how % 60 = p60
        have HPK : Hid (∀ w, Calls Try.prog 27 #[.int .i64 how, .int .i64 60] w fun e w' => e = .returned (.int .i64 p60) ∧ w' = w) := fun w => by
          rw [← hpk]; exact (pickN how 60 (by decide) (by decide) w).mono (fun _ _ h => ⟨h.1, h.2.symm⟩)
        have hp60 : 0 ≤ p60 ∧ p60 < 60 := by omega
        obtain ⟨hp0, hp1⟩ := hp60
        clear hpk
        have q13 := HC.out.reg (k := 13) (by omega)
        have z13 := HC.out.frozen 13
        have HD1 : ChW wr.drew pc c1 := ⟨HC.out.1.drew, HC.out.2⟩
        have q13d := HD1.reg (k := 13) (by omega)
        have z13d := HD1.frozen 13
        have HD := Lib.hid HD1
        clear HD1
        go_upto_region 9 with (fail)
        go_still_tail 9, (by kernel_rfl)
        still_call (HPK.out _)
        repeat still_step
        refine wpStill_nil ?_
        change wpList _ _ _ _ _ wr.drew
        go_upto_region 10 with (fail)
        have HX1 : U (262144 - 4 * p60) := by unfold U; omega
        have hc13 := HC.out.setReg (k := 13) (by omega) HX1
        have HC1 : Hid (ChW (wr.setCell ⟨pc, 13, none⟩ (.int .u32 (262144 - 4 * p60))).drew pc _) := ⟨hc13.1.drew, hc13.2⟩
        have HO1 := Lib.hid ((HO.out.setCell (p := ⟨pc, 13, none⟩) (.inl rfl) (.int .u32 (262144 - 4 * p60))).drew)
        clear hc13
        generalize (wr.setCell ⟨pc, 13, none⟩ (.int .u32 (262144 - 4 * p60))).drew = w1 at *
        have q14 := HC1.out.reg (k := 14) (by omega)
        have q15 := HC1.out.reg (k := 15) (by omega)
        obtain ⟨q16, q17, q18, q19, _⟩ := HC1.out.rest
        have z14 := HC1.out.frozen 14
        have z15 := HC1.out.frozen 15
        have z16 := HC1.out.frozen 16
        have z17 := HC1.out.frozen 17
        have z18 := HC1.out.frozen 18
        have z19 := HC1.out.frozen 19
        clear q13 z13 q13d z13d HX1 HD
        go_wp2_with fail
        go_end0
        refine ⟨rfl, _, (((((HC1.out.setReg (k := 14) (x := 101) (by omega) (by unfold U; omega)).setReg (k := 15) (x := 100) (by omega) (by unfold U; omega)).setNf _).setZf _).setCf _).setVf _, HE.out.1, HE.out.2.1, HE.out.2.2, ?_, (((((HO1.out.setCell (p := ⟨pc, 14, none⟩) (.inl rfl) _).setCell (p := ⟨pc, 15, none⟩) (.inl rfl) _).setCell (p := ⟨pc, 16, none⟩) (.inl rfl) _).setCell (p := ⟨pc, 17, none⟩) (.inl rfl) _).setCell (p := ⟨pc, 18, none⟩) (.inl rfl) _).setCell (p := ⟨pc, 19, none⟩) (.inl rfl) _⟩
        show (((c1.R.set 13 (262144 - 4 * p60)).set 14 101).set 15 100)[15]?.getD 0 = 100
        rw [List.getElem?_set_self (by rw [List.length_set, List.length_set, HC.out.2.len]; decide)]
        rfl
    · have h13' : ¬ (k : Int) < 13 := by omega
      clear hc ho h13 hk
      generalize hpk : how % 60 = p60
      have HPK : Hid (∀ w, Calls Try.prog 27 #[.int .i64 how, .int .i64 60] w fun e w' => e = .returned (.int .i64 p60) ∧ w' = w) := fun w => by
        rw [← hpk]; exact (pickN how 60 (by decide) (by decide) w).mono (fun _ _ h => ⟨h.1, h.2.symm⟩)
      have hp60 : 0 ≤ p60 ∧ p60 < 60 := by omega
      obtain ⟨hp0, hp1⟩ := hp60
      clear hpk
      have q13 := HC.out.reg (k := 13) (by omega)
      have z13 := HC.out.frozen 13
      have HD1 : ChW wr.drew pc c1 := ⟨HC.out.1.drew, HC.out.2⟩
      have q13d := HD1.reg (k := 13) (by omega)
      have z13d := HD1.frozen 13
      have HD := Lib.hid HD1
      clear HD1
      go_upto_region 9 with (fail)
      go_still_tail 9, (by kernel_rfl)
      still_call (HPK.out _)
      repeat still_step
      refine wpStill_nil ?_
      change wpList _ _ _ _ _ wr.drew
      go_upto_region 10 with (fail)
      have HX1 : U (262144 - 4 * p60) := by unfold U; omega
      have hc13 := HC.out.setReg (k := 13) (by omega) HX1
      have HC1 : Hid (ChW (wr.setCell ⟨pc, 13, none⟩ (.int .u32 (262144 - 4 * p60))).drew pc _) := ⟨hc13.1.drew, hc13.2⟩
      have HO1 := Lib.hid ((HO.out.setCell (p := ⟨pc, 13, none⟩) (.inl rfl) (.int .u32 (262144 - 4 * p60))).drew)
      clear hc13
      generalize (wr.setCell ⟨pc, 13, none⟩ (.int .u32 (262144 - 4 * p60))).drew = w1 at *
      have q14 := HC1.out.reg (k := 14) (by omega)
      have q15 := HC1.out.reg (k := 15) (by omega)
      obtain ⟨q16, q17, q18, q19, _⟩ := HC1.out.rest
      have z14 := HC1.out.frozen 14
      have z15 := HC1.out.frozen 15
      have z16 := HC1.out.frozen 16
      have z17 := HC1.out.frozen 17
      have z18 := HC1.out.frozen 18
      have z19 := HC1.out.frozen 19
      clear q13 z13 q13d z13d HX1 HD
      go_wp2_with fail
      go_end0
      refine ⟨rfl, _, (((((HC1.out.setReg (k := 14) (x := 101) (by omega) (by unfold U; omega)).setReg (k := 15) (x := 100) (by omega) (by unfold U; omega)).setNf _).setZf _).setCf _).setVf _, HE.out.1, HE.out.2.1, HE.out.2.2, ?_, (((((HO1.out.setCell (p := ⟨pc, 14, none⟩) (.inl rfl) _).setCell (p := ⟨pc, 15, none⟩) (.inl rfl) _).setCell (p := ⟨pc, 16, none⟩) (.inl rfl) _).setCell (p := ⟨pc, 17, none⟩) (.inl rfl) _).setCell (p := ⟨pc, 18, none⟩) (.inl rfl) _).setCell (p := ⟨pc, 19, none⟩) (.inl rfl) _⟩
      show (((c1.R.set 13 (262144 - 4 * p60)).set 14 101).set 15 100)[15]?.getD 0 = 100
      rw [List.getElem?_set_self (by rw [List.length_set, List.length_set, HC.out.2.len]; decide)]
      rfl
end Go.Proofs.Ytpihjhfaeloapaa
