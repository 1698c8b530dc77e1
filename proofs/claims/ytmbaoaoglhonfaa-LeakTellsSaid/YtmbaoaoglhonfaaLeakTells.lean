/- The walk of LeakTells. -/
import Derived.Test.YtmbaoaoglhonfaaLeakFill
import Derived.Deep.DeepCutAuto
namespace Go.Proofs.Ytmbaoaoglhonfaa
open Go.RowKit On
theorem own_base0 {w : World} {base : Nat} {e : TypeId} {size : Nat} {v : Value} {n : Nat} {xs : List Value} (h : w.ownsRow base e size v n xs) : w.ownsRow 0 e size v n xs := by
  refine ⟨h.1, ?_⟩
  rcases h.2 with h | ⟨g, cap, cur, h1, _, h2⟩
  · exact .inl h
  · exact .inr ⟨g, cap, cur, h1, Nat.zero_le _, h2⟩
theorem guard_yes {k b : Int} {n : Nat} (h1 : 0 ≤ k) (h2 : k < (n : Int)) : Value.bool (b != 0) = Value.bool (decide (0 ≤ k ∧ k < (n : Int) ∧ b ≠ 0)) := by
  congr 1; rw [Bool.eq_iff_iff, bne_iff_ne, decide_eq_true_iff]; exact ⟨fun h => ⟨h1, h2, h⟩, fun h => h.2.2⟩
theorem guard_no {k b : Int} {n : Nat} (h : k < 0 ∨ (n : Int) ≤ k) : Value.bool false = Value.bool (decide (0 ≤ k ∧ k < (n : Int) ∧ b ≠ 0)) := by
  congr 1; symm; rw [decide_eq_false_iff_not]; omega
set_option maxHeartbeats 2000000 in
set_option maxRecDepth 100000 in
theorem leakTells_walk (A B : Option Addr) (n c m d : Nat) (xs ys : List Ev) (turn by_ : Int) (same : Bool) (w : World) (hx : Evs w A n xs) (hy : Evs w B m ys) (hb1 : -9223372036854775808 ≤ by_) (hb2 : by_ ≤ 9223372036854775807) (hn : n ≤ c) (hm : m ≤ d) :
    Calls Try.prog 4 #[.slice A n c, .slice B m d, .int .i64 turn, .int .i64 by_, .bool same] w fun e w' => e = .returned (.bool true) ∧ Below w.heap.size w w' := by
  have n1 : ∀ (w : World) (a : Addr), (binOp .eql 22 (.pointer (some a)) (.pointer none)).run Try.prog w = .ok (.bool false) w := by
    intro w a; go_simp
  obtain ⟨N, hN⟩ : ∃ N, w.heap.size = N := ⟨_, rfl⟩
  rw [hN]
  have HN := Lib.hid hN; clear hN
  have HX := Lib.hid hx; clear hx
  have HY := Lib.hid hy; clear hy
  have HB := Lib.hid (And.intro hb1 hb2); clear hb1 hb2
  go_enter Try.func4, Try.ntmps4
  go_wp2_with fail
  refine (trNew_c w).mono ?_
  rintro e w1 ⟨rfl, hw⟩
  have HT1 : Hid (Tr w1 N none []) := by subst hw; unfold Hid; rw [← HN.out]; exact Tr.new w
  have HB1 : Hid (Below N w w1) := by subst hw; unfold Hid; rw [← HN.out]; exact (Below.refl _ _).alloc (Nat.le_refl _) _
  have HS1 : Hid (w1.heap.size = N + 1) := by subst hw; unfold Hid; rw [← HN.out]; simp
  clear hw
  rw [HN.out]
  go_wp2_with fail
  refine (trNew_c w1).mono ?_
  rintro e w2 ⟨rfl, hw⟩
  have HT2 : Hid (Tr w2 N none []) := by subst hw; exact HT1.out.alloc _
  have HU2 : Hid (Tr w2 (N + 1) none []) := by subst hw; unfold Hid; rw [← HS1.out]; exact Tr.new w1
  have HB2 : Hid (Below N w w2) := by subst hw; exact HB1.out.alloc (by have := HS1.out; omega) _
  have HS2 : Hid (w2.heap.size = N + 2) := by subst hw; have := HS1.out; unfold Hid; simp; omega
  clear hw
  rw [HS1.out]
  clear HT1 HB1 HS1
  go_wp2_with fail
  refine (leakKnown_c w2).mono ?_
  rintro e w3 ⟨rfl, hb⟩
  have HT3 := Lib.hid (HT2.out.below hb)
  have HU3 := Lib.hid (HU2.out.below hb)
  have HB3 : Hid (Below N w w3) := HB2.out.trans (hb.mono (by have := HS2.out; omega))
  have HZ3 : Hid (N + 2 ≤ w3.heap.size) := by have := hb.size; have := HS2.out; unfold Hid; omega
  clear hb HT2 HU2 HB2 HS2
  go_upto_if 33 with (fail)
  go_cut [0] (fun s0 wx => ∃ n' : Nat, s0 = .slice A n' c ∧ n' ≤ 60 ∧ n' ≤ n ∧ wx = w3)
  case first =>
    go_wp2_with fail
    all_goals go_meet
    · exact ⟨60, rfl, by omega, by omega, rfl⟩
    · exact ⟨n, rfl, by omega, by omega, rfl⟩
  case rest =>
    obtain ⟨n', rfl, hn1, hn2, rfl⟩ := hcut
    clear n1
    have HX3 : Hid (Evs wc A n' (xs.take n')) := (HX.out.below (by rw [HN.out]; exact HB3.out)).take hn2
    have HY3 : Hid (Evs wc B m ys) := HY.out.below (by rw [HN.out]; exact HB3.out)
    have HD : Hid (∀ b o s, A = some ⟨b, o, s⟩ → 0 < n' → b < N) := fun b o s hA h0 => by
      have := (HX.out.cell b o s 0 (by rw [HX.out.len]; omega) hA).2.1; have := HN.out; omega
    have HE : Hid (∀ b o s, B = some ⟨b, o, s⟩ → 0 < m → b < N) := fun b o s hA h0 => by
      have := (HY.out.cell b o s 0 (by rw [HY.out.len]; omega) hA).2.1; have := HN.out; omega
    clear HX HY hn2 hn
    generalize xs.take n' = zs at *
    go_wp2_with fail
    refine (pickN turn ((n' : Int) + 1) (by omega) (by omega) wc).mono ?_
    rintro e w' ⟨rfl, rfl⟩
    have ht1 := Int.emod_nonneg turn (show ((n' : Int) + 1) ≠ 0 by omega)
    have ht2 := Int.emod_lt_of_pos turn (show (0 : Int) < (n' : Int) + 1 by omega)
    generalize turn % ((n' : Int) + 1) = q at *
    go_upto_if 41 with (fail)
    go_cut [13] (fun s wx => ∃ k : Int, s = .int .i64 k ∧ -1 ≤ k ∧ k ≤ n' ∧ wx = wc)
    case first =>
      cases same
      all_goals go_wp2_with fail
      all_goals go_meet
      · exact ⟨q, rfl, by omega, by omega, rfl⟩
      · exact ⟨-1, rfl, by omega, by omega, rfl⟩
    case rest =>
      obtain ⟨k, rfl, hk1, hk2, rfl⟩ := hcut
      rename_i wc1
      clear ht1 ht2 q
      -- the two traces are filled
      go_wp2_with fail
      refine (fill_c wc wc N none [] zs A n' c (-1) 0 (Rel.refl HT3.out) HX3.out ?_ (by omega) (by simp)).mono ?_
      · intro b o s hA h0
        have := HD.out b o s hA h0; have := HZ3.out
        exact ⟨by omega, by rintro (h | h); omega; cases h⟩
      rintro e w4 ⟨rfl, hr⟩
      rw [List.nil_append, filled_same (by omega) HX3.out.wf] at hr
      obtain ⟨ga, hta, hga, hOa⟩ := hr
      have hua : Tr w4 (N + 1) none [] := HU3.out.keep hOa (by rintro j (h | h) (h2 | h2); omega; cases h2; cases h; cases h)
      have hxa : Evs w4 A n' zs := by
        by_cases h0 : n' = 0
        · subst h0
          have : zs = [] := List.eq_nil_of_length_eq_zero HX3.out.len
          subst this
          exact ⟨rfl, by simp, fun _ => rfl, fun b o s i hi => by simp at hi⟩
        · exact HX3.out.keep (fun b o s hA hb i => hOa.cell (p := ⟨b, i, none⟩) hb (by have := HD.out b o s hA (by omega); rintro (h | h); simp at h; omega; cases h)) hOa.size
      have hya : Evs w4 B m ys := by
        by_cases h0 : m = 0
        · subst h0
          have : ys = [] := List.eq_nil_of_length_eq_zero HY3.out.len
          subst this
          exact ⟨rfl, by simp, fun _ => rfl, fun b o s i hi => by simp at hi⟩
        · exact HY3.out.keep (fun b o s hA hb i => hOa.cell (p := ⟨b, i, none⟩) hb (by have := HE.out b o s hA (by omega); rintro (h | h); simp at h; omega; cases h)) hOa.size
      have hBa : Below N w w4 := HB3.out.trans (hOa.below (by have := HZ3.out; omega) (by rintro j (h | h); omega; cases h))
      have hsa : N + 2 ≤ w4.heap.size := by have := hOa.size; have := HZ3.out; omega
      have hga2 : ∀ j, ga = some j → N + 2 ≤ j := by
        rintro j rfl
        rcases hga with h | ⟨i, h, hi⟩
        · cases h
        · injection h with h; have := HZ3.out; omega
      clear hga hOa HT3 HU3 HX3 HY3 HB3 HZ3
      have HTA := Lib.hid hta; have HUA := Lib.hid hua; have HXA := Lib.hid hxa; have HYA := Lib.hid hya; have HBA := Lib.hid hBa; have HSA := Lib.hid hsa; have HGA := Lib.hid hga2
      clear hta hua hxa hya hBa hsa hga2
      go_wp2_with fail
      refine (fill_c w4 w4 (N + 1) none [] zs A n' c k by_ (Rel.refl HUA.out) HXA.out ?_ (by omega) (by simp)).mono ?_
      · intro b o s hA h0
        have := HD.out b o s hA h0; have := HSA.out
        exact ⟨by omega, by rintro (h | h); omega; cases h⟩
      rintro e w5 ⟨rfl, hr⟩
      rw [List.nil_append] at hr
      obtain ⟨gb, htb, hgb, hOb⟩ := hr
      have hta : Tr w5 N ga zs := HTA.out.keep hOb (by
        rintro j (h | h) (h2 | h2)
        · omega
        · cases h2
        · have := HGA.out j h; omega
        · cases h2)
      have hxa : Evs w5 A n' zs := by
        by_cases h0 : n' = 0
        · subst h0
          have : zs = [] := List.eq_nil_of_length_eq_zero HXA.out.len
          subst this
          exact ⟨rfl, by simp, fun _ => rfl, fun b o s i hi => by simp at hi⟩
        · exact HXA.out.keep (fun b o s hA hb i => hOb.cell (p := ⟨b, i, none⟩) hb (by have := HD.out b o s hA (by omega); rintro (h | h); simp at h; omega; cases h)) hOb.size
      have hya : Evs w5 B m ys := by
        by_cases h0 : m = 0
        · subst h0
          have : ys = [] := List.eq_nil_of_length_eq_zero HYA.out.len
          subst this
          exact ⟨rfl, by simp, fun _ => rfl, fun b o s i hi => by simp at hi⟩
        · exact HYA.out.keep (fun b o s hA hb i => hOb.cell (p := ⟨b, i, none⟩) hb (by have := HE.out b o s hA (by omega); rintro (h | h); simp at h; omega; cases h)) hOb.size
      have hBa : Below N w w5 := HBA.out.trans (hOb.below (by have := HSA.out; omega) (by rintro j (h | h); omega; cases h))
      have hsa : N + 2 ≤ w5.heap.size := by have := hOb.size; have := HSA.out; omega
      have hgb2 : ∀ j, gb = some j → N + 2 ≤ j ∧ ga ≠ some j := by
        rintro j rfl
        rcases hgb with h | ⟨i, h, hi⟩
        · cases h
        · injection h with h
          refine ⟨by have := HSA.out; omega, ?_⟩
          rintro rfl
          have := HTA.out.lt j (.inr rfl)
          omega
      have HW := Lib.hid (same_want (turn := k) HB.out.1 HB.out.2 HXA.out.wf)
      have HLEN := Lib.hid HXA.out.len
      clear hgb hOb HTA HUA HXA HYA HBA HSA
      have HT := Lib.hid hta; have HU := Lib.hid htb; have HX := Lib.hid hxa; have HY := Lib.hid hya; have HBL := Lib.hid hBa; have HS := Lib.hid hsa; have HGB := Lib.hid hgb2
      clear hta htb hxa hya hBa hsa hgb2
      obtain ⟨bb, hbb⟩ : ∃ bb : Bool, bb = decide (0 ≤ k ∧ k < (n' : Int) ∧ by_ ≠ 0) := ⟨_, rfl⟩
      have HBB := Lib.hid hbb; clear hbb
      go_upto_region 13 with (fail)
      go_cut [65] (fun s wx => s = .bool bb ∧ w5 = wx)
      case first =>
        go_wp2_with fail
        all_goals go_meet
        · exact ⟨by rw [HBB.out]; exact guard_yes (by assumption) (by assumption), rfl⟩
        · exact ⟨by rw [HBB.out]; exact guard_no (by omega), rfl⟩
        · exact ⟨by rw [HBB.out]; exact guard_no (by omega), rfl⟩
      case rest =>
        obtain ⟨rfl, rfl⟩ := hcut
        have HWW : Hid (want k by_ n' = if bb = true then k else -1) := by
          unfold Hid want; rw [HBB.out]; simp only [decide_eq_true_eq]
        rw [HLEN.out] at HW
        generalize want k by_ n' = r at *
        go_upto_if 65 with (fail)
        go_cut [14] (fun s wx => s = .int .i64 r ∧ w5 = wx)
        case first =>
          cases bb
          all_goals go_wp2_with fail
          all_goals go_meet
          · exact ⟨by rw [HWW.out]; rfl, rfl⟩
          · exact ⟨by rw [HWW.out]; rfl, rfl⟩
        case rest =>
          obtain ⟨rfl, rfl⟩ := hcut
          go_wp2_with fail
          refine (same_e w5 _ _ zs (filled k by_ zs) HT.out.o HU.out.o).mono ?_
          rintro e w' ⟨r', rfl, hr, j1, rfl⟩
          obtain rfl := hr.unique HW.out
          clear hr
          have hrr : (r' != r') = false := by simp
          go_wp2_with fail
          refine (trAll_c (w5.drewN j1) N ga zs (HT.out.drewN _) (by rw [HLEN.out]; omega)).mono ?_
          rintro e w6 ⟨C, cc, rfl, hown, hb⟩
          have HT6 : Hid (Tr w6 N ga zs) := (HT.out.drewN j1).below hb
          have HU6 : Hid (Tr w6 (N + 1) gb (filled k by_ zs)) := (HU.out.drewN j1).below hb
          have HX6 : Hid (Evs w6 A n' zs) := (HX.out.drewN j1).below hb
          have HY6 : Hid (Evs w6 B m ys) := (HY.out.drewN j1).below hb
          have HB6 : Hid (Below N w w6) := (below_drewN HBL.out j1).trans (hb.mono (by have := HS.out; simp; omega))
          have HS6 : Hid (N + 2 ≤ w6.heap.size) := by have h1 : w5.heap.size ≤ w6.heap.size := hb.size; have := HS.out; unfold Hid; omega
          have HC6 := Lib.hid hown
          clear hb hown HT HU HX HY HBL HS
          have hlen : ((zs.length : Int) != (n' : Int)) = false := by rw [HLEN.out]; simp
          go_wp2_with fail
          refine (trLen_c w6 N ga zs HT6.out).mono ?_
          rintro e w' ⟨rfl, rfl⟩
          go_wp2_with fail
          go_loopw [16] (fun i wr => ∃ j : Nat, j ≤ n' ∧ i = .int .i64 j ∧ Below w6.heap.size w6 wr) (fun i _ => n' - (intOf i).toNat)
          case atStart => exact ⟨0, Nat.zero_le _, rfl, Below.refl _ _⟩
          case round =>
            obtain ⟨j, hj, rfl, hbr⟩ := hrel
            have HBR := Lib.hid hbr; clear hbr
            by_cases hlt : j < n'
            · have hjz : j < zs.length := by rw [HLEN.out]; exact hlt
              cases A with
              | none => have := HX6.out.none_ rfl; omega
              | some a =>
                obtain ⟨b, o, s⟩ := a
                obtain ⟨gc, cc', hC, d1, d2, d3, d4⟩ := Tr.at_ (own_base0 HC6.out) hjz
                injection hC with hC _ hcc
                subst hC
                subst hcc
                have e0 := (HX6.out.cell b o s j hjz rfl).1
                subst e0
                have hxr := (HX6.out.below HBR.out)
                obtain ⟨_, hbw, c1, c2, c3, c4⟩ := hxr.cell b o none j hjz rfl
                have hgw : gc < wr.heap.size := by have := World.block_lt_of_cell? w6 _ d1; simp at this; have := HBR.out.size; omega
                have hgw6 : gc < w6.heap.size := by have := World.block_lt_of_cell? w6 _ d1; simpa using this
                rw [← HBR.out.cell (p := ⟨gc, _, none⟩) hgw6] at d1 d2 d3 d4
                have HXX : Hid (zs[(j : Int).toNat]? = some ⟨zs[j].what, zs[j].a, zs[j].b, zs[j].c⟩) := by
                  unfold Hid; rw [Int.toNat_natCast, List.getElem?_eq_getElem hjz]
                generalize zs[j].what = x1 at *
                generalize zs[j].a = x2 at *
                generalize zs[j].b = x3 at *
                generalize zs[j].c = x4 at *
                clear hxr
                go_wp2_with fail
                refine (trAt_x wr N ga zs (HT6.out.below HBR.out) j x1 x2 x3 x4 (by omega) HXX.out).mono ?_
                rintro e w7 ⟨rfl, hb7⟩
                rw [← hb7.cell (p := ⟨b, _, none⟩) hbw] at c1 c2 c3 c4
                rw [← hb7.cell (p := ⟨gc, _, none⟩) hgw] at d1 d2 d3 d4
                have hs7 := hb7.size
                have hbw7 : b < w7.heap.size := by omega
                have hgw7 : gc < w7.heap.size := by omega
                have HB7 : Hid (Below w6.heap.size w6 w7) := HBR.out.trans (hb7.mono HBR.out.size)
                clear hb7 hbw hgw hgw6 hs7
                go_wp2_with fail
                go_quiet (fail)
                go_wp2
                go_roundw
                case rel => exact ⟨j + 1, by omega, by go_num, below_drewN (HB7.out.alloc (by have := HB7.out.size; omega) _) _⟩
                case measure => simp [intOf]; omega
            · have hjn : j = n' := by omega
              subst hjn
              go_upto_if 121 with (fail)
              have hbr := HBR.out
              have HT7 := Lib.hid (HT6.out.below hbr); have HU7 := Lib.hid (HU6.out.below hbr); have HY7 := Lib.hid (HY6.out.below hbr)
              have HB7 : Hid (Below N w wr) := HB6.out.trans (hbr.mono (by have := HS6.out; omega))
              have HS7 : Hid (N + 2 ≤ wr.heap.size) := by have := hbr.size; have := HS6.out; unfold Hid; omega
              clear hbr HT6 HU6 HY6 HB6 HS6 HX6 HC6 HBR
              go_cut [14] (fun s wx => ∃ (q : Int) (gz : Option Nat) (zz : List Ev), s = .int .i64 q ∧ Tr wx N gz zz ∧ Tr wx (N + 1) gb (filled k by_ zs) ∧ Below N w wx ∧ SameRes zz (filled k by_ zs) q)
              case first =>
                by_cases hm0 : m = 0
                · subst hm0
                  go_wp2_with fail
                  go_meet
                  exact ⟨_, ga, zs, rfl, HT7.out, HU7.out, HB7.out, HW.out⟩
                · have hmp : (0 : Int) < (m : Int) := by omega
                  have h1d : 1 ≤ d := by omega
                  cases B with
                  | none => have := HY7.out.none_ rfl; omega
                  | some bb1 =>
                    have HRL : Hid ((filled k by_ zs).length = zs.length) := filled_len _ _ _
                    have HYT : Hid (Evs wr (some bb1) 1 (ys.take 1)) := HY7.out.take (by omega)
                    go_wp2_with fail
                    refine (fill_c wr wr N ga zs (ys.take 1) (some bb1) 1 d (-1) 0 (Rel.refl HT7.out) HYT.out ?_ (by omega) (by rw [HLEN.out]; omega)).mono ?_
                    · intro b o s hA h0
                      have := HE.out b o s hA (by omega); have := HS7.out
                      refine ⟨by omega, ?_⟩
                      rintro (h | h)
                      · omega
                      · have := HGA.out b h; omega
                    rintro e w8 ⟨rfl, hr⟩
                    rw [filled_same (by omega) HYT.out.wf] at hr
                    obtain ⟨gz, htz, _, hOz⟩ := hr
                    have hu8 : Tr w8 (N + 1) gb (filled k by_ zs) := HU7.out.keep hOz (by
                      rintro j (h | h) (h2 | h2)
                      · omega
                      · have := HGA.out j h2; omega
                      · have := HGB.out j h; omega
                      · exact (HGB.out j h).2 h2)
                    have hb8 : Below N w w8 := HB7.out.trans (hOz.below (by have := HS7.out; omega) (by rintro j (h | h); omega; have := HGA.out j h; omega))
                    have HT8 := Lib.hid htz; have HU8 := Lib.hid hu8; have HB8 := Lib.hid hb8
                    have HSM : Hid (SameRes (zs ++ ys.take 1) (filled k by_ zs) (if r' < 0 then zs.length else r')) := by
                      refine same_more HW.out HRL.out ?_
                      intro e
                      have := congrArg List.length e
                      rw [List.length_take, HY7.out.len] at this
                      simp at this; omega
                    clear htz hu8 hb8 hOz
                    by_cases hneg : r' < 0
                    · have HQ : Hid (SameRes (zs ++ ys.take 1) (filled k by_ zs) (j : Int)) := by
                        have := HSM.out; rw [if_pos hneg, HLEN.out] at this; exact this
                      go_wp2_with fail
                      go_meet
                      exact ⟨_, gz, _, rfl, HT8.out, HU8.out, HB8.out, HQ.out⟩
                    · have HQ : Hid (SameRes (zs ++ ys.take 1) (filled k by_ zs) r') := by
                        have := HSM.out; rw [if_neg hneg] at this; exact this
                      go_wp2_with fail
                      go_meet
                      exact ⟨_, gz, _, rfl, HT8.out, HU8.out, HB8.out, HQ.out⟩
              case rest =>
                obtain ⟨q, gz, zz, rfl, ht, hu, hbb, hsr⟩ := hcut
                have HT8 := Lib.hid ht; have HU8 := Lib.hid hu; have HB8 := Lib.hid hbb; have HSR := Lib.hid hsr
                clear ht hu hbb hsr
                go_wp2_with fail
                refine (same_e wc _ _ zz (filled k by_ zs) HT8.out.o HU8.out.o).mono ?_
                rintro e w' ⟨r1, rfl, hr, j1, rfl⟩
                obtain rfl := hr.unique HSR.out
                clear hr
                go_wp2_with fail
                refine (same_e _ _ _ (filled k by_ zs) zz (HU8.out.drewN j1).o (HT8.out.drewN j1).o).mono ?_
                rintro e w' ⟨r2, rfl, hr, j2, rfl⟩
                obtain rfl := hr.unique HSR.out.symm
                clear hr
                go_wp2_with fail
                go_ret
                exact ⟨rfl, below_drewN HB8.out _⟩
end Go.Proofs.Ytmbaoaoglhonfaa
