/- SameArray; alike; chapter 8's known. -/
import Derived.Test.YtjmpnkhgligdlaaH8e
import Derived.Test.YtjmpnkhgligdlaaBytes
import Derived.Test.YtjmpnkhgligdlaaWallP
namespace Go.Proofs.Ytjmpnkhgligdlaa
open Go.RowKit On Hv Go.Sort
theorem Dw.bs {u : TypeId} {w : World} {B : Nat} {A : Option Addr} {n c : Nat} {xs : List Int} (h : Dw u w B (.slice A n c) xs) : By.Bs w A n xs := by
  obtain ⟨A', c', e, h0, _⟩ := h.slice
  injection e with e1 e2 e3
  subst e1
  refine ⟨e2.symm, h.byte, fun hA => by rw [e2, (h0 hA).1]; rfl, fun b o s i hA hi => ?_⟩
  obtain ⟨g, c2, e', h1, h2, h3⟩ := h.cell (i := i) (by omega)
  injection e' with e' _ _
  rw [hA] at e'
  injection e' with e'
  injection e' with e4 e5 e6
  subst e4; subst e5; subst e6
  exact ⟨by simpa using h1, rfl, (h.lt h3).2⟩
set_option maxHeartbeats 1000000 in
theorem same_yes (w : World) (a : Ar) (B B' : Nat) (D D' : Value) (h1 : Dw 5 w B D a.data) (h2 : Dw 5 w B' D' a.data) :
    Calls Try.prog 42 #[.agg #[.int .i64 a.owner, .int .i64 a.label, .int .i64 a.life, .bool a.share, D], .agg #[.int .i64 a.owner, .int .i64 a.label, .int .i64 a.life, .bool a.share, D']] w fun e w' => e = .returned (.bool true) ∧ Below w.heap.size w w' := by
  obtain ⟨A1, c1, rfl, _⟩ := h1.slice
  obtain ⟨A2, c2, rfl, _⟩ := h2.slice
  have hk : Below w.heap.size w ((w.alloc (.cells #[.int .i64 a.owner, .int .i64 a.label, .int .i64 a.life, .bool a.share, .slice A1 a.data.length c1] 37)).alloc (.cells #[.int .i64 a.owner, .int .i64 a.label, .int .i64 a.life, .bool a.share, .slice A2 a.data.length c2] 37)) :=
    ((Below.refl _ _).alloc (Nat.le_refl _) _).alloc (by simp) _
  have r1 := By.run_conv (P := Try.prog) ((Dw.bs h1).below hk) 29 5 9 Try.underlying29 Try.underlying5 Try.underlying9 c1
  have r2 := By.run_conv (P := Try.prog) ((Dw.bs h2).below hk) 29 5 9 Try.underlying29 Try.underlying5 Try.underlying9 c2
  have HK := Lib.hid hk
  clear hk h1 h2
  generalize strOfNums a.data = s at *
  generalize a.data.length = n at *
  go_enter Try.func42, Try.ntmps42
  go_wp2
  go_ret
  exact ⟨rfl, HK.out⟩
def ar0 : Ar := ⟨0, 0, 0, false, []⟩
set_option maxHeartbeats 4000000 in
set_option maxRecDepth 100000 in
theorem alike_c (w : World) (B B' p p' : Nat) (sz sz' : Int) (L : List Ar) (F G : Nat → Prop) (hi : AtI w B p sz L F) (hr : AtR w B' p' sz' L G) :
    Calls Try.prog 29 #[.pointer (some ⟨p, 0, none⟩), .pointer (some ⟨p', 0, none⟩)] w fun e w' => e = .returned (.bool true) ∧ Below w.heap.size w w' := by
  have HI := Lib.hid hi
  have HR := Lib.hid hr
  have hlen := hi.good.len
  have hlo : (L.length : Int) ≤ 514 := by omega
  obtain ⟨q, c, R, h1, _⟩ := hr.open
  have hcl : w.cell? ⟨p', 1, none⟩ = some (.slice (some ⟨q, 0, none⟩) L.length c) := by have := h1.blk.cell 1; simpa using this
  have hp' : p' < w.heap.size := h1.blk.lt
  clear hi hr h1
  have cU : Hid (∀ d os, Calls Try.prog 17 #[.pointer (some ⟨p, 0, none⟩)] (grow (redrawn w d) os) fun e w'' => e = .returned (.int .i64 (used L)) ∧ ∃ p : Regrown, w'' = grow (redrawn w p.d) p.os) := fun d os => Calls.regrown_of (usedI_c _ B p sz L F (HI.out.below (below_regrown w d os)))
  have cV : Hid (∀ d os, Calls Try.prog 41 #[.pointer (some ⟨p', 0, none⟩)] (grow (redrawn w d) os) fun e w'' => e = .returned (.int .i64 (used L)) ∧ ∃ p : Regrown, w'' = grow (redrawn w p.d) p.os) := fun d os => Calls.regrown_of (usedR_c _ B' p' sz' L G (HR.out.below (below_regrown w d os)))
  have cC : Hid (∀ d os, Calls Try.prog 18 #[.pointer (some ⟨p, 0, none⟩)] (grow (redrawn w d) os) fun e w'' => e = .returned (.int .i64 L.length) ∧ ∃ p : Regrown, w'' = grow (redrawn w p.d) p.os) := fun d os =>
    Calls.regrown_of ((countI_c _ B p sz L F (HI.out.below (below_regrown w d os))).mono (fun e w' ⟨h1, h2⟩ => ⟨h1, by rw [← h2]; exact Below.refl _ _⟩))
  have hcR : ∀ d os, (grow (redrawn w d) os).cell? ⟨p', 1, none⟩ = some (.slice (some ⟨q, 0, none⟩) L.length c) := fun d os => cell_regrown hcl d os
  generalize used L = U at cU cV
  go_enter Try.func29, Try.ntmps29
  go_wp2_with fail
  refine wp_region_quiet_below (by kernel_rfl) (by kernel_rfl) ?_
  repeat (go_big_quiet_step (first | (with_reducible exact cU.out _ _) | (with_reducible exact cV.out _ _) | (with_reducible exact cC.out _ _)))
  refine wpQuiet_nil ?_
  intro w1 hw1
  have hb1 : Below w.heap.size w w1 := by obtain ⟨pr, rfl⟩ := hw1; exact below_regrown _ _ _
  have HB1 := Lib.hid hb1
  have HCL := Lib.hid hcl
  clear hw1 hcR hb1 hcl
  go_wp2_with fail
  go_loopw [5] (fun x wr => ∃ k : Nat, k ≤ L.length + 2 ∧ x = .int .i64 k ∧ Below w.heap.size w wr) (fun x _ => L.length + 2 - (intOf x).toNat)
  case atStart => exact ⟨0, by omega, rfl, HB1.out⟩
  case round =>
    obtain ⟨k, hk, rfl, hb⟩ := hrel
    have HB := Lib.hid hb
    have hcw : wr.cell? ⟨p', 1, none⟩ = some (.slice (some ⟨q, 0, none⟩) L.length c) := (hb.cell (p := ⟨p', 1, none⟩) hp').trans HCL.out
    clear hb HB1
    by_cases hlt : k ≤ L.length + 1
    · rcases ref_cases L (k : Int) with hrr | ⟨i, a, hi, ha⟩
      · have HRR := Lib.hid hrr
        clear hrr
        go_wp2_with fail
        refine (arrayI_no wr B p sz L F (HI.out.below HB.out) _ HRR.out).mono ?_
        rintro e w2 ⟨rfl, hb2⟩
        have HB2 := Lib.hid (HB.out.trans (hb2.mono HB.out.size))
        have HB3 := Lib.hid (HB2.out.alloc (o := .cells #[.int .i64 0, .int .i64 0, .int .i64 0, .bool false, .slice none 0 0] 37) HB2.out.size)
        have K0 : Blk (w2.alloc (.cells #[.int .i64 0, .int .i64 0, .int .i64 0, .bool false, .slice none 0 0] 37)) w2.heap.size 37 #[.int .i64 0, .int .i64 0, .int .i64 0, .bool false, .slice none 0 0] := Blk.new _ _ _
        clear hb2 HB2
        go_wp2_with fail
        refine (atR_no _ B' p' sz' L G (HR.out.below HB3.out) _ HRR.out).mono ?_
        rintro e w3 ⟨rfl, hb3⟩
        have K3 := K0.only (S := fun _ => False) (Only.of_below hb3) id
        have e0 := K3.cell 0
        have e1 := K3.cell 1
        have e2 := K3.cell 2
        have e3 := K3.cell 3
        have e4 := K3.cell 4
        simp at e0 e1 e2 e3 e4
        have hlt3 : w2.heap.size < w3.heap.size := K3.lt
        have HB4 := Lib.hid (HB3.out.trans (hb3.mono HB3.out.size))
        clear hb3 K0 K3 HB3
        go_wp2_with fail
        refine (same_yes _ ar0 0 0 _ _ Dw.nil Dw.nil).mono ?_
        rintro e w5 ⟨rfl, hb5⟩
        have HB5 : Hid (Below w.heap.size w w5) := (HB4.out.alloc HB4.out.size _).trans (hb5.mono (by have := HB4.out.size; simp; omega))
        clear hb5 HB4 e0 e1 e2 e3 e4
        go_wp2_with fail
        go_roundw
        case rel => exact ⟨k + 1, by omega, by go_num, HB5.out⟩
        case measure => simp [intOf]; omega
      · have HA := Lib.hid ha
        have HII := Lib.hid hi
        clear ha hi
        go_wp2_with fail
        refine (arrayI_yes wr B p sz L F (HI.out.below HB.out) i a _ HII.out HA.out).mono ?_
        rintro e w2 ⟨D, rfl, hd, hb2⟩
        obtain ⟨AD, cD, rfl, _⟩ := hd.slice
        have HB2 := Lib.hid (HB.out.trans (hb2.mono HB.out.size))
        have HB3 := Lib.hid (HB2.out.alloc (o := .cells #[.int .i64 a.owner, .int .i64 a.label, .int .i64 a.life, .bool a.share, .slice AD a.data.length cD] 37) HB2.out.size)
        have K0 : Blk (w2.alloc (.cells #[.int .i64 a.owner, .int .i64 a.label, .int .i64 a.life, .bool a.share, .slice AD a.data.length cD] 37)) w2.heap.size 37 #[.int .i64 a.owner, .int .i64 a.label, .int .i64 a.life, .bool a.share, .slice AD a.data.length cD] := Blk.new _ _ _
        have HD2 := Lib.hid hd
        clear hb2 HB2 hd
        go_wp2_with fail
        refine (atR_yes _ B' p' sz' L G (HR.out.below HB3.out) i a _ HII.out HA.out).mono ?_
        rintro e w3 ⟨D', rfl, hd', hb3⟩
        obtain ⟨AD', cD', rfl, _⟩ := hd'.slice
        have K3 := K0.only (S := fun _ => False) (Only.of_below hb3) id
        have e0 := K3.cell 0
        have e1 := K3.cell 1
        have e2 := K3.cell 2
        have e3 := K3.cell 3
        have e4 := K3.cell 4
        simp at e0 e1 e2 e3 e4
        have hlt3 : w2.heap.size < w3.heap.size := K3.lt
        have HB4 := Lib.hid (HB3.out.trans (hb3.mono HB3.out.size))
        have HD3 : Hid (Dw 5 w3 wr.heap.size (.slice AD a.data.length cD) a.data) := (HD2.out.keep (S := fun _ => False) ((Only.refl _ _).alloc _) (fun _ _ h => h)).keep (S := fun _ => False) (Only.of_below hb3) (fun _ _ h => h)
        have HD3' := Lib.hid hd'
        clear hb3 K0 K3 HB3 hd' HD2
        go_wp2_with fail
        refine (same_yes _ a wr.heap.size B' _ _ (HD3.out.keep (S := fun _ => False) ((Only.refl _ _).alloc _) (fun _ _ h => h)) (HD3'.out.keep (S := fun _ => False) ((Only.refl _ _).alloc _) (fun _ _ h => h))).mono ?_
        rintro e w5 ⟨rfl, hb5⟩
        have HB5 : Hid (Below w.heap.size w w5) := (HB4.out.alloc HB4.out.size _).trans (hb5.mono (by have := HB4.out.size; simp; omega))
        clear hb5 HB4 e0 e1 e2 e3 e4
        go_wp2_with fail
        go_roundw
        case rel => exact ⟨k + 1, by omega, by go_num, HB5.out⟩
        case measure => simp [intOf]; omega
    · have : k = L.length + 2 := by omega
      subst this
      go_wp2_with fail
      go_ret
      exact ⟨rfl, HB.out⟩
def K3 : List Ar := [buf0, buf1, fresh 0 3 0 false 56]
theorem K3_fits : Fits 64 [buf0, buf1] 3 0 56 := by unfold Fits used; simp [sizes]
theorem K3_full : ¬ Fits 64 K3 3 0 0 := by unfold Fits used K3; simp [sizes, fresh]
theorem K3_eq : allocL 64 [buf0, buf1] 0 3 0 false 56 = K3 := by unfold allocL; rw [if_pos K3_fits]; rfl
theorem K3_n : allocN 64 [buf0, buf1] 3 0 56 = 3 := by unfold allocN; rw [if_pos K3_fits]; rfl
theorem K3_b : allocB 64 [buf0, buf1] 3 0 56 = true := by unfold allocB; simp [K3_fits]
theorem K3_eq2 : allocL 64 K3 0 3 0 false 0 = K3 := by unfold allocL; rw [if_neg K3_full]
theorem K3_n2 : allocN 64 K3 3 0 0 = 0 := by unfold allocN; rw [if_neg K3_full]
theorem K3_b2 : allocB 64 K3 3 0 0 = false := by unfold allocB; simp [K3_full]
theorem K3_used : used K3 = 64 := by unfold used K3; simp [sizes, fresh]
set_option maxHeartbeats 1000000 in
theorem known8_c (w : World) :
    Calls Try.prog 12 #[] w fun e w' => e = .returned (.bool true) ∧ Below w.heap.size w w' := by
  have n1 := eql_heap
  go_enter Try.func12, Try.ntmps12
  go_wp2_with fail
  refine (newI_c w 64 (by omega) (by omega)).mono ?_
  rintro e w1 ⟨p, F, rfl, hi, hb1⟩
  have HI : Hid (AtI w1 w.heap.size p 64 [buf0, buf1] F) := hi
  have HB1 := Lib.hid hb1
  clear hi hb1
  go_wp2_with fail
  refine (allocI_any w1 w.heap.size p 64 _ F 0 3 0 56 false HI.out (by omega) (by omega)).mono ?_
  rintro e w2 ⟨rfl, hi, hO⟩
  rw [K3_n, K3_b]
  rw [K3_eq] at hi
  have HI2 : Hid (AtI w2 w.heap.size p 64 K3 (More F w1 w2)) := hi
  have HB2 : Hid (Below w.heap.size w w2) := HB1.out.trans (hO.below HB1.out.size (fun k hk => (HI.out.lt hk).1))
  clear hi hO HI HB1
  go_wp2_with fail
  refine (allocI_any w2 w.heap.size p 64 _ _ 0 3 0 0 false HI2.out (by omega) (by omega)).mono ?_
  rintro e w3 ⟨rfl, hi, hO⟩
  rw [K3_n2, K3_b2]
  rw [K3_eq2] at hi
  obtain ⟨G, hG⟩ : ∃ G, G = More (More F w1 w2) w2 w3 := ⟨_, rfl⟩
  rw [← hG] at hi
  have HI3 : Hid (AtI w3 w.heap.size p 64 K3 G) := hi
  have HB3 : Hid (Below w.heap.size w w3) := HB2.out.trans (hO.below HB2.out.size (fun k hk => (HI2.out.lt hk).1))
  clear hi hO HI2 HB2 hG
  go_wp2_with fail
  refine (usedI_c w3 w.heap.size p 64 _ G HI3.out).mono ?_
  rintro e w4 ⟨rfl, hb⟩
  rw [K3_used]
  have HB4 := Lib.hid (HB3.out.trans (hb.mono HB3.out.size))
  have HI4 : Hid (AtI w4 w.heap.size p 64 K3 G) := HI3.out.below hb
  clear hb HB3 HI3
  go_wp2_with fail
  refine (countI_c w4 w.heap.size p 64 _ G HI4.out).mono ?_
  rintro e w5 ⟨rfl, rfl⟩
  rw [show ((K3.length : Nat) : Int) = 3 from rfl]
  go_wp2_with fail
  go_ret
  exact ⟨rfl, HB4.out⟩
end Go.Proofs.Ytjmpnkhgligdlaa
