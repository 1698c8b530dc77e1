/- thumb's read. -/
import Derived.Test.YtpihjhfaeloapaaThJ
import Derived.Test.YtpihjhfaeloapaaThF
import Derived.BigRegion
namespace Go.Proofs.Ytpihjhfaeloapaa
open Go.RowKit On Th
theorem blkSet {w : World} {b : Nat} {i : Ins} {k v : Int} (h : Blk w b 36 i.cells) : Blk (w.setCell ⟨b, po k, none⟩ (.int .i64 v)) b 36 (i.set k v).cells := set_cells i k v ▸ h.set (po k) _
set_option maxHeartbeats 8000000 in
theorem read_c (op b h : Int) (l : List Sl) (A : Option Addr) (w : World) (hl : SlA 140 w A l) (hst : ∀ s ∈ l, s.step ≠ 0 ∧ 0 ≤ s.bits ∧ s.bits < 16 ∧ 0 ≤ s.shift ∧ s.shift < 16) (hlen : l.length ≤ 5) (_ : 0 ≤ h) (_ : h < 65536) :
    Calls Try.prog 74 #[.agg #[.int .i64 op, .int .u16 b, .slice A l.length l.length], .int .u16 h] w fun e w' =>
      e = .returned (.tuple #[.agg (readUp op h l l.length).1.cells, .bool (((readUp op h l l.length).2 == b) && rightS (readUp op h l l.length).1)]) ∧ Below w.heap.size w w' := by
  have HST := Lib.hid hst
  have HL := Lib.hid hl
  clear hst hl
  have KR : Blk (((w.alloc (.cells #[.int .i64 op, .int .u16 b, .slice A l.length l.length] 123)).alloc (.cells #[.int .i64 0, .int .i64 0, .int .i64 0, .int .i64 0, .int .i64 0, .int .i64 0] 36)).alloc (.cells #[.int .i64 op, .int .i64 0, .int .i64 0, .int .i64 0, .int .i64 0, .int .i64 0] 36)) w.heap.size 123 #[.int .i64 op, .int .u16 b, .slice A l.length l.length] := (Blk.alloc (Blk.alloc (Blk.new _ _ _) _) _)
  have KR := Lib.hid KR
  go_enter Try.func74, Try.ntmps74
  go_wp2_with fail
  go_loopw [7, 19] (fun r j wr => ∃ q : Nat, q ≤ l.length ∧ j = .int .i64 q ∧ r = .int .u16 (readUp op h l q).2 ∧ Blk wr (w.heap.size + 1 + 1) 36 (readUp op h l q).1.cells ∧ Blk wr (w.heap.size + 1) 36 #[.int .i64 0, .int .i64 0, .int .i64 0, .int .i64 0, .int .i64 0, .int .i64 0] ∧ Blk wr w.heap.size 123 #[.int .i64 op, .int .u16 b, .slice A l.length l.length] ∧ Below w.heap.size w wr) (fun _ j _ => l.length - (intOf j).toNat)
  case atStart => exact ⟨0, Nat.zero_le _, rfl, rfl, Blk.new' _ _ _ _ (by simp only [World.size_alloc]), Blk.alloc (Blk.new' _ _ _ _ (by simp only [World.size_alloc])) _, KR.out, (((Below.refl _ _).alloc (Nat.le_refl _) _).alloc (by simp) _).alloc (by simp; omega) _⟩
  case round =>
    obtain ⟨q, hq, rfl, rfl, ki, kz, kr, hb⟩ := hrel
    have HB := Lib.hid hb
    have HLR := Lib.hid (HL.out.below hb)
    clear hb
    by_cases hlt : q < l.length
    · obtain ⟨s, hs⟩ : ∃ s, l[q]? = some s := ⟨l[q], by simp [hlt]⟩
      obtain ⟨hstep, hb0, hb1, hs0, hs1⟩ := HST.out s (List.mem_of_getElem? hs)
      have HU := Lib.hid (readUp_succ op h l hs)
      have HLT := Lib.hid hlt
      obtain ⟨g, hA, hg, c0, c1, c2, c3, c4, c5⟩ := HLR.out.cell hs
      subst hA
      generalize readUp op h l q = st at ki HU
      obtain ⟨si, rest⟩ := st
      dsimp only at ki HU ⊢
      have KS : Blk (wr.alloc (.cells #[.int .i64 s.part, .int .i64 s.shift, .int .i64 s.bits, .int .i64 s.least, .int .i64 s.most, .int .i64 s.step] 140)) wr.heap.size 140 #[.int .i64 s.part, .int .i64 s.shift, .int .i64 s.bits, .int .i64 s.least, .int .i64 s.most, .int .i64 s.step] := Blk.new _ _ _
      have ksx := Blk.six KS
      have KI := Lib.hid ((ki.alloc (.cells #[.int .i64 s.part, .int .i64 s.shift, .int .i64 s.bits, .int .i64 s.least, .int .i64 s.most, .int .i64 s.step] 140)).drew.drew)
      have KZ := Lib.hid ((kz.alloc (.cells #[.int .i64 s.part, .int .i64 s.shift, .int .i64 s.bits, .int .i64 s.least, .int .i64 s.most, .int .i64 s.step] 140)).drew.drew)
      have KR := Lib.hid ((kr.alloc (.cells #[.int .i64 s.part, .int .i64 s.shift, .int .i64 s.bits, .int .i64 s.least, .int .i64 s.most, .int .i64 s.step] 140)).drew.drew)
      have HBA : Hid (Below w.heap.size w (wr.alloc (.cells #[.int .i64 s.part, .int .i64 s.shift, .int .i64 s.bits, .int .i64 s.least, .int .i64 s.most, .int .i64 s.step] 140)).drew.drew) := belowD (belowD (HB.out.alloc HB.out.size _))
      clear KS hs HST ki kz kr hlt
      go_wp2_with fail
      go_region_held3 (fun w' => w'.cell? ⟨wr.heap.size, 0, none⟩ = some (.int .i64 s.part) ∧ w'.cell? ⟨wr.heap.size, 1, none⟩ = some (.int .i64 s.shift) ∧ w'.cell? ⟨wr.heap.size, 2, none⟩ = some (.int .i64 s.bits) ∧ w'.cell? ⟨wr.heap.size, 3, none⟩ = some (.int .i64 s.least) ∧ w'.cell? ⟨wr.heap.size, 4, none⟩ = some (.int .i64 s.most) ∧ w'.cell? ⟨wr.heap.size, 5, none⟩ = some (.int .i64 s.step)) (exact ksx) (fail)
      generalize hm : IntKind.u16.wrap (IntKind.u16.wrap (IntKind.u16.wrap (2 ^ s.bits.toNat) - 1) * 2 ^ s.shift.toNat) = mk
      have HM : Hid (maskS s = mk) := hm
      clear hm
      go_wp2_with fail
      go_region_held3 (fun w' => w'.cell? ⟨wr.heap.size, 0, none⟩ = some (.int .i64 s.part) ∧ w'.cell? ⟨wr.heap.size, 1, none⟩ = some (.int .i64 s.shift) ∧ w'.cell? ⟨wr.heap.size, 2, none⟩ = some (.int .i64 s.bits) ∧ w'.cell? ⟨wr.heap.size, 3, none⟩ = some (.int .i64 s.least) ∧ w'.cell? ⟨wr.heap.size, 4, none⟩ = some (.int .i64 s.most) ∧ w'.cell? ⟨wr.heap.size, 5, none⟩ = some (.int .i64 s.step)) (exact ksx) (fail)
      generalize hn : IntKind.i64.wrap (IntKind.i64.wrap (bits .and .u16 h mk / 2 ^ s.shift.toNat) * s.step) = nn
      have HN : Hid (rawS h s = nn) := by
        show rawS h s = nn
        unfold rawS
        rw [HM.out]
        exact hn
      clear hn
      rcases (show s.most < nn ∨ (nn ≤ s.most ∧ nn < s.least) ∨ (nn ≤ s.most ∧ s.least ≤ nn) by omega) with h1 | ⟨h1, h2⟩ | ⟨h1, h2⟩
      · have HNS : Hid (numS h s = wrap64 (nn - wrap64 (s.step * 2 ^ s.bits.toNat))) := by
          show numS h s = _
          unfold numS
          rw [HN.out, if_pos h1]
        go_wp2_with fail
        refine (width_c _ _ _ _ _ _ _ hb0 hb1).mono ?_
        rintro e w' ⟨rfl, rfl⟩
        have kx : Blk (((wr.alloc (.cells #[.int .i64 s.part, .int .i64 s.shift, .int .i64 s.bits, .int .i64 s.least, .int .i64 s.most, .int .i64 s.step] 140)).alloc (.cells #[.int .i64 s.part, .int .i64 s.shift, .int .i64 s.bits, .int .i64 s.least, .int .i64 s.most, .int .i64 s.step] 140)).drew.drew) (w.heap.size + 1 + 1) 36 si.cells := KI.out.alloc (.cells #[.int .i64 s.part, .int .i64 s.shift, .int .i64 s.bits, .int .i64 s.least, .int .i64 s.most, .int .i64 s.step] 140)
        have fc := (kx.cell (po s.part)).trans (part_cell si s.part)
        have ff := kx.frozen (po s.part)
        have KX := Lib.hid kx
        clear kx
        go_wp2_with fail
        refine (part_c _ _ _).mono ?_
        rintro e w' ⟨rfl, rfl⟩
        go_wp2_with fail
        go_roundw
        case rel =>
          refine ⟨q + 1, by have := HLT.out; omega, by go_num, by rw [HU.out]; unfold readStep; rw [HM.out], by rw [HU.out]; unfold readStep; dsimp only; rw [HNS.out]; exact blkSet KX.out, (KZ.out.alloc (.cells #[.int .i64 s.part, .int .i64 s.shift, .int .i64 s.bits, .int .i64 s.least, .int .i64 s.most, .int .i64 s.step] 140)).far (by simp) _, (KR.out.alloc (.cells #[.int .i64 s.part, .int .i64 s.shift, .int .i64 s.bits, .int .i64 s.least, .int .i64 s.most, .int .i64 s.step] 140)).far (by simp; omega) _, (HBA.out.alloc HBA.out.size _).setCell (by simp; omega) _⟩
        case measure => have := HLT.out; simp [intOf]; omega
      · have HNS : Hid (numS h s = wrap64 (nn + wrap64 (s.step * 2 ^ s.bits.toNat))) := by
          show numS h s = _
          unfold numS
          rw [HN.out, if_neg (by omega), if_pos h2]
        go_wp2_with fail
        refine (width_c _ _ _ _ _ _ _ hb0 hb1).mono ?_
        rintro e w' ⟨rfl, rfl⟩
        have kx : Blk (((wr.alloc (.cells #[.int .i64 s.part, .int .i64 s.shift, .int .i64 s.bits, .int .i64 s.least, .int .i64 s.most, .int .i64 s.step] 140)).alloc (.cells #[.int .i64 s.part, .int .i64 s.shift, .int .i64 s.bits, .int .i64 s.least, .int .i64 s.most, .int .i64 s.step] 140)).drew.drew) (w.heap.size + 1 + 1) 36 si.cells := KI.out.alloc (.cells #[.int .i64 s.part, .int .i64 s.shift, .int .i64 s.bits, .int .i64 s.least, .int .i64 s.most, .int .i64 s.step] 140)
        have fc := (kx.cell (po s.part)).trans (part_cell si s.part)
        have ff := kx.frozen (po s.part)
        have KX := Lib.hid kx
        clear kx
        go_wp2_with fail
        refine (part_c _ _ _).mono ?_
        rintro e w' ⟨rfl, rfl⟩
        go_wp2_with fail
        go_roundw
        case rel =>
          refine ⟨q + 1, by have := HLT.out; omega, by go_num, by rw [HU.out]; unfold readStep; rw [HM.out], by rw [HU.out]; unfold readStep; dsimp only; rw [HNS.out]; exact blkSet KX.out, (KZ.out.alloc (.cells #[.int .i64 s.part, .int .i64 s.shift, .int .i64 s.bits, .int .i64 s.least, .int .i64 s.most, .int .i64 s.step] 140)).far (by simp) _, (KR.out.alloc (.cells #[.int .i64 s.part, .int .i64 s.shift, .int .i64 s.bits, .int .i64 s.least, .int .i64 s.most, .int .i64 s.step] 140)).far (by simp; omega) _, (HBA.out.alloc HBA.out.size _).setCell (by simp; omega) _⟩
        case measure => have := HLT.out; simp [intOf]; omega
      · have HNS : Hid (numS h s = nn) := by
          show numS h s = _
          unfold numS
          rw [HN.out, if_neg (by omega), if_neg (by omega)]
        have kx := KI.out
        have fc := (kx.cell (po s.part)).trans (part_cell si s.part)
        have ff := kx.frozen (po s.part)
        have KX := Lib.hid kx
        clear kx
        go_wp2_with fail
        refine (part_c _ _ _).mono ?_
        rintro e w' ⟨rfl, rfl⟩
        go_wp2_with fail
        go_roundw
        case rel =>
          refine ⟨q + 1, by have := HLT.out; omega, by go_num, by rw [HU.out]; unfold readStep; rw [HM.out], by rw [HU.out]; unfold readStep; dsimp only; rw [HNS.out]; exact blkSet KX.out, (KZ.out).far (by simp) _, (KR.out).far (by simp; omega) _, (HBA.out).setCell (by simp; omega) _⟩
        case measure => have := HLT.out; simp [intOf]; omega
    · have hqe : q = l.length := by omega
      subst hqe
      have HU : Hid (∃ st, readUp op h l l.length = st) := ⟨_, rfl⟩
      obtain ⟨st, hst⟩ := HU.out
      rw [hst] at ki ⊢
      have HS := Lib.hid hst
      clear hst HU
      obtain ⟨⟨so, sd, sn, sm, si, sc⟩, rest⟩ := st
      dsimp only at ki ⊢
      have KI : Blk wr (w.heap.size + 1 + 1) 36 #[.int .i64 so, .int .i64 sd, .int .i64 sn, .int .i64 sm, .int .i64 si, .int .i64 sc] := ki
      have kf := And.intro (Blk.six KI) (show wr.cell? ⟨w.heap.size, 1, none⟩ = some (.int .u16 b) from kr.cell 1)
      have z0 := kz.cell 0
      have z1 := kz.cell 1
      have z2 := kz.cell 2
      have z3 := kz.cell 3
      have z4 := kz.cell 4
      have z5 := kz.cell 5
      simp at z0 z1 z2 z3 z4 z5
      have f0 := kz.frozen 0
      have f1 := kz.frozen 1
      have f2 := kz.frozen 2
      have f3 := kz.frozen 3
      have f4 := kz.frozen 4
      have f5 := kz.frozen 5
      have KI := Lib.hid KI
      have KZ := Lib.hid kz
      have KR := Lib.hid kr
      clear ki kz kr HST HLR
      by_cases hrb : rest = b
      · have hbe : (rest == b) = true := by simp [hrb]
        have HRB := Lib.hid hrb
        clear hrb
        have kg := kf
        have ks := kf
        go_wp2_with fail
        go_region_held3 (fun w' => (w'.cell? ⟨w.heap.size + 1 + 1, 0, none⟩ = some (.int .i64 so) ∧ w'.cell? ⟨w.heap.size + 1 + 1, 1, none⟩ = some (.int .i64 sd) ∧ w'.cell? ⟨w.heap.size + 1 + 1, 2, none⟩ = some (.int .i64 sn) ∧ w'.cell? ⟨w.heap.size + 1 + 1, 3, none⟩ = some (.int .i64 sm) ∧ w'.cell? ⟨w.heap.size + 1 + 1, 4, none⟩ = some (.int .i64 si) ∧ w'.cell? ⟨w.heap.size + 1 + 1, 5, none⟩ = some (.int .i64 sc)) ∧ w'.cell? ⟨w.heap.size, 1, none⟩ = some (.int .u16 b)) (first | (with_reducible exact ks) | (with_reducible exact kg) | exact kf)
          (first | (go_at_call 71; refine (right_c ⟨so, sd, sn, sm, si, sc⟩ _).mono ?_; rintro e w3 ⟨rfl, hb3⟩; have K3 := KI.out.drew.only (S := fun _ => False) (Only.of_below hb3) id; have R3 := KR.out.drew.only (S := fun _ => False) (Only.of_below hb3) id; have kg := And.intro (Blk.six K3) (show w3.cell? ⟨w.heap.size, 1, none⟩ = some (.int .u16 b) from R3.cell 1); have ks := And.intro (Blk.six (show Blk ((((((w3.setCell ⟨w.heap.size + 1, 0, none⟩ (.int .i64 so)).setCell ⟨w.heap.size + 1, 1, none⟩ (.int .i64 sd)).setCell ⟨w.heap.size + 1, 2, none⟩ (.int .i64 sn)).setCell ⟨w.heap.size + 1, 3, none⟩ (.int .i64 sm)).setCell ⟨w.heap.size + 1, 4, none⟩ (.int .i64 si)).setCell ⟨w.heap.size + 1, 5, none⟩ (.int .i64 sc)) (w.heap.size + 1 + 1) 36 #[.int .i64 so, .int .i64 sd, .int .i64 sn, .int .i64 sm, .int .i64 si, .int .i64 sc] from ((((((K3.far (p := ⟨w.heap.size + 1, 0, none⟩) (by simp) _).far (p := ⟨w.heap.size + 1, 1, none⟩) (by simp) _).far (p := ⟨w.heap.size + 1, 2, none⟩) (by simp) _).far (p := ⟨w.heap.size + 1, 3, none⟩) (by simp) _).far (p := ⟨w.heap.size + 1, 4, none⟩) (by simp) _).far (p := ⟨w.heap.size + 1, 5, none⟩) (by simp) _))) (show ((((((w3.setCell ⟨w.heap.size + 1, 0, none⟩ (.int .i64 so)).setCell ⟨w.heap.size + 1, 1, none⟩ (.int .i64 sd)).setCell ⟨w.heap.size + 1, 2, none⟩ (.int .i64 sn)).setCell ⟨w.heap.size + 1, 3, none⟩ (.int .i64 sm)).setCell ⟨w.heap.size + 1, 4, none⟩ (.int .i64 si)).setCell ⟨w.heap.size + 1, 5, none⟩ (.int .i64 sc)).cell? ⟨w.heap.size, 1, none⟩ = some (.int .u16 b) from ((((((R3.far (p := ⟨w.heap.size + 1, 0, none⟩) (by simp) _).far (p := ⟨w.heap.size + 1, 1, none⟩) (by simp) _).far (p := ⟨w.heap.size + 1, 2, none⟩) (by simp) _).far (p := ⟨w.heap.size + 1, 3, none⟩) (by simp) _).far (p := ⟨w.heap.size + 1, 4, none⟩) (by simp) _).far (p := ⟨w.heap.size + 1, 5, none⟩) (by simp) _).cell 1); have Z3 := KZ.out.drew.only (S := fun _ => False) (Only.of_below hb3) id; have z0 := Z3.cell 0; have z1 := Z3.cell 1; have z2 := Z3.cell 2; have z3 := Z3.cell 3; have z4 := Z3.cell 4; have z5 := Z3.cell 5; simp at z0 z1 z2 z3 z4 z5; have f0 := Z3.frozen 0; have f1 := Z3.frozen 1; have f2 := Z3.frozen 2; have f3 := Z3.frozen 3; have f4 := Z3.frozen 4; have f5 := Z3.frozen 5))
        have KE : Blk ((((((w3.setCell ⟨w.heap.size + 1, 0, none⟩ (.int .i64 so)).setCell ⟨w.heap.size + 1, 1, none⟩ (.int .i64 sd)).setCell ⟨w.heap.size + 1, 2, none⟩ (.int .i64 sn)).setCell ⟨w.heap.size + 1, 3, none⟩ (.int .i64 sm)).setCell ⟨w.heap.size + 1, 4, none⟩ (.int .i64 si)).setCell ⟨w.heap.size + 1, 5, none⟩ (.int .i64 sc)) (w.heap.size + 1) 36 #[.int .i64 so, .int .i64 sd, .int .i64 sn, .int .i64 sm, .int .i64 si, .int .i64 sc] := ((((((((((((Z3).set 0 _)).set 1 _)).set 2 _)).set 3 _)).set 4 _)).set 5 _)
        have ke := Blk.six KE
        have HE := Lib.hid (((((((((((((belowD HB.out).trans (hb3.mono (belowD HB.out).size)).setCell (p := ⟨w.heap.size + 1, 0, none⟩) (Nat.le_succ _) (.int .i64 so))).setCell (p := ⟨w.heap.size + 1, 1, none⟩) (Nat.le_succ _) (.int .i64 sd))).setCell (p := ⟨w.heap.size + 1, 2, none⟩) (Nat.le_succ _) (.int .i64 sn))).setCell (p := ⟨w.heap.size + 1, 3, none⟩) (Nat.le_succ _) (.int .i64 sm))).setCell (p := ⟨w.heap.size + 1, 4, none⟩) (Nat.le_succ _) (.int .i64 si))).setCell (p := ⟨w.heap.size + 1, 5, none⟩) (Nat.le_succ _) (.int .i64 sc))
        clear KE z0 z1 z2 z3 z4 z5 f0 f1 f2 f3 f4 f5 ks kf kg
        go_wp2_with fail
        refine bodyPost_ret (v := .tuple #[.agg #[.int .i64 so, .int .i64 sd, .int .i64 sn, .int .i64 sm, .int .i64 si, .int .i64 sc], .bool (rightS ⟨so, sd, sn, sm, si, sc⟩)]) (by rw [results_cell_tmp rfl]; go_simp) rfl ?_
        rw [HS.out]
        dsimp only
        rw [show (rest == b) = true from by rw [HRB.out]; simp, Bool.true_and]
        exact ⟨rfl, HE.out⟩

      · have hbe : (rest == b) = false := by simp [hrb]
        have HRB := Lib.hid hrb
        clear hrb
        go_wp2_with fail
        go_region
        have KE : Blk ((((((wr.setCell ⟨w.heap.size + 1, 0, none⟩ (.int .i64 so)).setCell ⟨w.heap.size + 1, 1, none⟩ (.int .i64 sd)).setCell ⟨w.heap.size + 1, 2, none⟩ (.int .i64 sn)).setCell ⟨w.heap.size + 1, 3, none⟩ (.int .i64 sm)).setCell ⟨w.heap.size + 1, 4, none⟩ (.int .i64 si)).setCell ⟨w.heap.size + 1, 5, none⟩ (.int .i64 sc)).drew (w.heap.size + 1) 36 #[.int .i64 so, .int .i64 sd, .int .i64 sn, .int .i64 sm, .int .i64 si, .int .i64 sc] := ((((((((((((KZ.out).set 0 _)).set 1 _)).set 2 _)).set 3 _)).set 4 _)).set 5 _).drew
        have ke := Blk.six KE
        have HE := Lib.hid (belowD ((((((((((((HB.out).setCell (p := ⟨w.heap.size + 1, 0, none⟩) (Nat.le_succ _) (.int .i64 so))).setCell (p := ⟨w.heap.size + 1, 1, none⟩) (Nat.le_succ _) (.int .i64 sd))).setCell (p := ⟨w.heap.size + 1, 2, none⟩) (Nat.le_succ _) (.int .i64 sn))).setCell (p := ⟨w.heap.size + 1, 3, none⟩) (Nat.le_succ _) (.int .i64 sm))).setCell (p := ⟨w.heap.size + 1, 4, none⟩) (Nat.le_succ _) (.int .i64 si))).setCell (p := ⟨w.heap.size + 1, 5, none⟩) (Nat.le_succ _) (.int .i64 sc)))
        clear KE z0 z1 z2 z3 z4 z5 f0 f1 f2 f3 f4 f5 kf
        go_wp2_with fail
        refine bodyPost_ret (v := .tuple #[.agg #[.int .i64 so, .int .i64 sd, .int .i64 sn, .int .i64 sm, .int .i64 si, .int .i64 sc], .bool false]) (by rw [results_cell_tmp rfl]; go_simp) rfl ?_
        rw [HS.out]
        dsimp only
        rw [show (rest == b) = false from by simpa using HRB.out, Bool.false_and]
        exact ⟨rfl, HE.out⟩

end Go.Proofs.Ytpihjhfaeloapaa
