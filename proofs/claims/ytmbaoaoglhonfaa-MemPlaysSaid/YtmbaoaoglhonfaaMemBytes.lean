/- The walks of known and of MemBytes. -/
import Derived.Test.YtmbaoaoglhonfaaMemP
import Derived.Test.YtmbaoaoglhonfaaView
namespace Go.Proofs.Ytmbaoaoglhonfaa
open Go.RowKit On
theorem Mm.below {w w' : World} {t : TypeId} {p g : Nat} {f : Nat → Int} (h : Mm w t p g f) (hb : Below w.heap.size w w') : Mm w' t p g f :=
  ⟨h.1.only (S := fun _ => False) (Only.of_below hb) (fun h => h), h.2.only (S := fun _ => False) (Only.of_below hb) (fun h => h)⟩
theorem Mm.drewN {w : World} {t : TypeId} {p g : Nat} {f : Nat → Int} (h : Mm w t p g f) (n : Nat) : Mm (w.drewN n) t p g f := h
theorem Mm.only {w w' : World} {t : TypeId} {p g : Nat} {f : Nat → Int} {S : Nat → Prop} (h : Mm w t p g f) (hO : Only S w w') (h1 : ¬ S p) (h2 : ¬ S g) : Mm w' t p g f := ⟨h.1.only hO h1, h.2.only hO h2⟩
theorem Mm.lt {w : World} {t : TypeId} {p g : Nat} {f : Nat → Int} (h : Mm w t p g f) : p < w.heap.size ∧ g < w.heap.size := by
  obtain ⟨h1, cs, h2, _⟩ := h; exact ⟨h1.lt, h2.lt⟩
theorem memKnown_c (w : World) : Calls Try.prog 21 #[] w fun e w' => e = .returned (.bool true) ∧ Below w.heap.size w w' := by
  have n1 : ∀ (w : World) (a : Addr), (binOp .eql 40 (.pointer (some a)) (.pointer none)).run Try.prog w = .ok (.bool false) w := by
    intro w a; go_simp
  go_enter Try.func21, Try.ntmps21
  go_wp2_with fail
  refine (memNew_c w).mono ?_
  rintro e w1 ⟨p, g, rfl, hm, _, _, hb⟩
  have HB := Lib.hid hb; clear hb hm
  go_wp2_with fail
  refine (word_no w1 _ 2 (by omega)).mono ?_
  rintro e w' ⟨rfl, rfl⟩
  go_wp2_with fail
  refine (setword_no w1 _ 0 1 (by omega)).mono ?_
  rintro e w' ⟨rfl, rfl⟩
  go_wp2_with fail
  go_ret
  exact ⟨rfl, HB.out⟩
theorem byteAt_sum {n : Int} (hn : 0 ≤ n ∧ n < 4294967296) (j : Nat) (hj : j < 4) : n / 2 ^ (8 * (j + 1)) * 256 % 4294967296 + byteAt n j = n / 2 ^ (8 * j) := by
  unfold byteAt
  match j, hj with
  | 0, _ => simp; omega
  | 1, _ => simp; omega
  | 2, _ => simp; omega
  | 3, _ => simp; omega
set_option maxHeartbeats 1000000 in
set_option maxRecDepth 100000 in
theorem memBytes_walk (k n at_ b : Int) (w : World) (hn : 0 ≤ n ∧ n < 4294967296) (hb : 0 ≤ b ∧ b ≤ 255) :
    Calls Try.prog 6 #[.int .i64 k, .int .u32 n, .int .i64 at_, .int .u8 b] w fun e w' => e = .returned (.bool true) ∧ Below w.heap.size w w' := by
  have n1 : ∀ (w : World) (a : Addr), (binOp .eql 40 (.pointer (some a)) (.pointer none)).run Try.prog w = .ok (.bool false) w := by
    intro w a; go_simp
  obtain ⟨q, hq⟩ : ∃ q : Nat, k % 32768 = q := ⟨(k % 32768).toNat, by omega⟩
  have hq2 : (q : Int) ≤ 32767 := by omega
  have HQ := Lib.hid hq; clear hq
  obtain ⟨z, hz⟩ : ∃ z : Nat, at_ % 4 = z := ⟨(at_ % 4).toNat, by omega⟩
  have hz2 : (z : Int) ≤ 3 := by omega
  have HZ := Lib.hid hz; clear hz
  have HN := Lib.hid hn; have HB := Lib.hid hb; clear hn hb
  go_enter Try.func6, Try.ntmps6
  go_wp2_with fail
  refine (memNew_c w).mono ?_
  rintro e w1 ⟨p, g, rfl, hm, hp, hg, hbl⟩
  have HM := Lib.hid hm; have HBL := Lib.hid hbl; have HP := Lib.hid hp; have HG := Lib.hid hg; clear hm hbl hp hg
  go_wp2_with fail
  refine (pickN k 32768 (by omega) (by omega) w1).mono ?_
  rintro e w' ⟨rfl, rfl⟩
  rw [HQ.out]
  go_wp2_with fail
  refine (memKnown_c w1).mono ?_
  rintro e w2 ⟨rfl, hb2⟩
  have HM2 := Lib.hid (HM.out.below hb2)
  have HBL2 := Lib.hid (HBL.out.trans (hb2.mono HBL.out.size))
  clear hb2 HM HBL
  go_wp2_with fail
  refine (setword_yes w2 p g _ (131072 + 4 * (q : Int)) n HM2.out (by omega) (by omega) (by omega)).mono ?_
  rintro e w3 ⟨rfl, hm, hO⟩
  rw [show (131072 + 4 * (q : Int)).toNat = 131072 + 4 * q by omega] at hm
  have HM3 := Lib.hid hm
  have HBL3 : Hid (Below w.heap.size w w3) := HBL2.out.trans (hO.below HBL2.out.size (fun j hj => by have := HG.out; omega))
  clear hm hO HM2 HBL2
  go_wp2_with fail
  refine (pickN at_ 4 (by omega) (by omega) w3).mono ?_
  rintro e w' ⟨rfl, rfl⟩
  rw [HZ.out]
  go_wp2_with fail
  obtain ⟨a, ha⟩ : ∃ a : Nat, a = 131072 + 4 * q := ⟨_, rfl⟩
  have ha1 : (131072 : Int) + 4 * (q : Int) = (a : Int) := by omega
  have hal : 131072 ≤ (a : Int) := by omega
  have hah : (a : Int) + 3 < 262144 := by omega
  have ha4 : (a : Int) % 4 = 0 := by omega
  rw [← ha] at HM3
  rw [ha1]
  have HA4 := Lib.hid ha4
  clear ha1 ha ha4
  go_loopw [10, 11] (fun s i wr => ∃ j : Nat, j ≤ 4 ∧ i = .int .i64 ((j : Int) - 1) ∧ s = .int .u32 (n / 2 ^ (8 * j)) ∧ wr = w3) (fun _ i _ => (intOf i + 1).toNat)
  case atStart => exact ⟨4, Nat.le_refl _, rfl, by have := HN.out; congr 1; omega, rfl⟩
  case round =>
    obtain ⟨j, hj, rfl, rfl, rfl⟩ := hrel
    by_cases h0 : 1 ≤ j
    · obtain ⟨i, rfl⟩ : ∃ i, j = i + 1 := ⟨j - 1, by omega⟩
      have e1 : (((i + 1 : Nat) : Int) - 1) = (i : Int) := by omega
      rw [e1]
      have hi3 : (i : Int) ≤ 3 := by omega
      have HS := Lib.hid (byteAt_sum HN.out i (by omega))
      have HV : Hid (setB (fun _ => 0) a 4 n ((a : Int) + i).toNat = byteAt n i) := by
        unfold Hid setB; rw [if_pos (by omega)]; congr 1; omega
      clear e1 h0
      generalize n / 2 ^ (8 * (i + 1)) = S at *
      go_wp2_with fail
      refine (byte_yes wr p g _ ((a : Int) + i) HM3.out (by omega) (by omega)).mono ?_
      rintro e w' ⟨rfl, rfl⟩
      rw [HV.out]
      have hbr := byteAt_range n i
      generalize byteAt n i = B at *
      go_wp2_with fail
      exact ⟨⟨i, by omega, rfl, by rw [HS.out], trivial⟩, by simp [intOf]⟩
    · have hj0 : j = 0 := by omega
      subst hj0
      have hbz : (a : Int) + z < 262144 := by omega
      have HT : Hid (turned n b z = getB (upd (setB (fun _ => 0) a 4 n) (a + z) b) a 4) := by
        unfold Hid; rw [turned_eq n b HN.out HB.out z (by omega), getB_upd HN.out z (by omega)]
      have hsum : (n / 2 ^ (8 * 0) == n) = true := by simp
      go_wp2_with fail
      refine (setbyte_yes wr p g _ ((a : Int) + z) b HM3.out (by omega) (by omega) HB.out).mono ?_
      rintro e w4 ⟨rfl, hm, hO⟩
      rw [show ((a : Int) + z).toNat = a + z by omega] at hm
      have HM4 := Lib.hid hm
      have HBL4 : Hid (Below w.heap.size w w4) := HBL3.out.trans (hO.below HBL3.out.size (fun j hj => by have := HG.out; omega))
      clear hm hO HM3 HBL3
      go_wp2_with fail
      refine (word_yes w4 p g _ (a : Int) HM4.out (by omega) HA4.out (by omega)).mono ?_
      rintro e w' ⟨rfl, rfl⟩
      rw [Int.toNat_natCast, ← HT.out]
      have ht : (turned n b z == bits .or .u32 (bits .andNot .u32 n (255 * 2 ^ (8 * z) % 4294967296)) (b * 2 ^ (8 * z) % 4294967296)) = true := by
        unfold turned; exact beq_self_eq_true _
      have hb0 := HB.out.1
      have hb1 := HB.out.2
      go_wp2_with fail
      go_ret
      exact ⟨rfl, HBL4.out⟩
theorem memBytes_top (v0 v1 v2 v3 : Value) (w : World) (u0 : Vw.Arg Try.prog w 3 v0) (u1 : Vw.Arg Try.prog w 39 v1) (u2 : Vw.Arg Try.prog w 3 v2) (u3 : Vw.Arg Try.prog w 5 v3) :
    Calls Try.prog 6 #[v0, v1, v2, v3] w fun e w' => e = .returned (.bool true) ∧ Below w.heap.size w w' := by
  obtain ⟨k, rfl, _⟩ := u0.int Try.underlying3
  obtain ⟨n, rfl, hn⟩ := u1.int Try.underlying39
  obtain ⟨a, rfl, _⟩ := u2.int Try.underlying3
  obtain ⟨b, rfl, hb⟩ := u3.int Try.underlying5
  simp [Lit.wf, IntKind.min, IntKind.max, IntKind.signed, IntKind.bits] at hn hb
  exact memBytes_walk k n a b w (by omega) (by omega)
end Go.Proofs.Ytmbaoaoglhonfaa
