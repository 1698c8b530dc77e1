/- The walk of WordBytes. -/
import Derived.Test.YtelkohkacdocpaaFew
import Derived.Test.YtelkohkacdocpaaWKnown
import Derived.Test.YtelkohkacdocpaaView
namespace Go.Proofs.Ytelkohkacdocpaa
open Go.RowKit By
def Done (w : World) (e : Ending) (w' : World) : Prop := e = .returned (.bool true) ∧ Below w.heap.size w w'
theorem same_p (A B : Option Addr) (n c m d : Nat) (xs ys : List Int) (w : World) (p : Bool) (hp : (xs == ys) = p) (ha : Bs w A n xs) (hb : Bs w B m ys) (hn : n ≤ maxLen) :
    Calls Try.prog 27 #[.slice A n c, .slice B m d] w (Quiet (.int .i32 (Wd.yes p)) w) := by
  rw [← hp]; exact same_c A B n c m d xs ys w ha hb hn
theorem _root_.Go.Proofs.By.Bs.drewN {w : World} {A : Option Addr} {n : Nat} {xs : List Int} (h : Bs w A n xs) {k : Nat} : Bs (w.drewN k) A n xs := ⟨h.len, h.byte, h.none_, h.cell⟩
theorem xor_byte (x z : Int) (hx : 0 ≤ x ∧ x ≤ 255) (hz : 0 ≤ z ∧ z ≤ 255) : 0 ≤ bits .xor .u8 x z ∧ bits .xor .u8 x z ≤ 255 := by
  rw [u8_xor x z hx.1 (by omega) hz.1 (by omega)]
  have : x.toNat ^^^ z.toNat < 2 ^ 8 := Nat.xor_lt_two_pow (by omega) (by omega)
  omega
set_option maxHeartbeats 1000000 in
theorem wordBytes_walk (A B : Option Addr) (n c m d : Nat) (xs ys : List Int) (q z : Int) (w : World) (ha : Bs w A n xs) (hb : Bs w B m ys)
    (hn : n ≤ 140737488355328) (hnc : n ≤ c) (hc0 : A = none → c = 0) (hz : 0 ≤ z ∧ z ≤ 255) :
    Calls Try.prog 6 #[.slice A n c, .slice B m d, .int .i64 q, .int .u8 z] w (Done w) := by
  have HA := Lib.hid ha; clear ha
  have HB := Lib.hid hb; clear hb
  have HC0 := Lib.hid hc0; clear hc0
  have y1 : (Wd.yes true == 1) = true := rfl
  have y0 : (Wd.yes false == 0) = true := rfl
  have hxs : xs.take n = xs := List.take_of_length_le (Nat.le_of_eq HA.out.len)
  have HX := Lib.hid hxs; clear hxs
  go_enter Try.func6, Try.ntmps6
  go_wp2_with fail
  refine (few_bs A n c n xs w HA.out hn hnc HC0.out (by omega) (by omega)).mono ?_
  rintro e w1 ⟨g, o, c', rfl, hbs, hg, hfz, hc1, hc2, hbl⟩
  simp only [Int.toNat_natCast, Nat.min_self] at hbs
  rw [HX.out] at hbs
  have HBS := Lib.hid hbs; clear hbs
  have HC2 := Lib.hid hc2; clear hc2
  simp only [Int.toNat_natCast, Nat.min_self]
  obtain ⟨p, hp⟩ : ∃ p, (xs == ys) = p := ⟨_, rfl⟩
  have HP := Lib.hid hp; clear hp
  by_cases h0 : n = 0
  · subst h0
    have HB1 := Lib.hid (HA.out.below hbl); have HB2 := Lib.hid (HB.out.below hbl)
    obtain ⟨zs, hzs⟩ : ∃ zs, xs = zs := ⟨_, rfl⟩
    have HR : Hid ((xs == zs) = true) := by unfold Hid; rw [hzs]; exact beq_self_eq_true _
    have HB3 : Hid (Bs w1 (some ⟨g, o, none⟩) 0 zs) := by rw [← hzs]; exact HBS
    clear hzs HBS
    have c1 := run_conv (P := Try.prog) HB1.out 32 5 9 Try.underlying32 Try.underlying5 Try.underlying9 c
    have c2 := run_conv (P := Try.prog) HB2.out 32 5 9 Try.underlying32 Try.underlying5 Try.underlying9 d
    have c3 := run_conv (P := Try.prog) HB3.out 32 5 9 Try.underlying32 Try.underlying5 Try.underlying9 c'
    have e1 := (str_eq HA.out.byte HB.out.byte).trans HP.out
    have e2 := (str_eq HA.out.byte HB3.out.byte).trans HR.out
    have HBL := Lib.hid hbl
    generalize strOfNums xs = s1 at *
    generalize strOfNums ys = s2 at *
    generalize strOfNums zs = s3 at *
    cases p
    all_goals
      go_wp2_with (go_at_call 11; (with_reducible refine (known_c _).mono ?_); rintro e w' ⟨rfl, rfl⟩)
      refine (same_p A B 0 c m d xs ys _ _ HP.out (HB1.out.below (Below.refl _ _)) (HB2.out.below (Below.refl _ _)) (by unfold maxLen; omega)).mono ?_
      rintro e w' ⟨rfl, k1, rfl⟩
      go_wp2_with fail
      refine (same_p A (some ⟨g, o, none⟩) 0 c 0 c' xs zs _ true HR.out HB1.out.drewN HB3.out.drewN (by unfold maxLen; omega)).mono ?_
      rintro e w' ⟨rfl, k2, rfl⟩
      go_wp2_with fail
      refine (same_p A A 0 c 0 c xs xs _ true (beq_self_eq_true _) HB1.out.drewN HB1.out.drewN (by unfold maxLen; omega)).mono ?_
      rintro e w' ⟨rfl, k3, rfl⟩
      go_wp2_with fail
      go_ret
      exact ⟨rfl, below_drewN HBL.out _⟩
  · have hpos : (0 : Int) < (n : Int) := by omega
    obtain ⟨k, hk⟩ : ∃ k : Nat, q % (n : Int) = k := ⟨(q % (n : Int)).toNat, by have := Int.emod_nonneg q (show (n : Int) ≠ 0 by omega); omega⟩
    have hkn : k < n := by have := Int.emod_lt_of_pos q hpos; omega
    have HK := Lib.hid hk; clear hk
    obtain ⟨hcell, _, hgs⟩ := HBS.out.cell g o none k rfl hkn
    have hx := getD_byte HBS.out.byte k
    obtain ⟨x, hxe⟩ : ∃ x, xs.getD k 0 = x := ⟨_, rfl⟩
    rw [hxe] at hcell hx
    clear hxe
    have HV := Lib.hid (xor_byte x z hx hz)
    obtain ⟨v, hv⟩ : ∃ v, bits .xor .u8 x z = v := ⟨_, rfl⟩
    rw [hv] at HV
    have hf := hfz (o + k)
    have hbl2 : Below w.heap.size w (w1.setCell ⟨g, o + k, none⟩ (.int .u8 v)) := hbl.setCell hg _
    have HB1 := Lib.hid (HA.out.below hbl2); have HB2 := Lib.hid (HB.out.below hbl2)
    have HB3 := Lib.hid (HBS.out.put hkn HV.out)
    have HBL := Lib.hid hbl2; clear hbl2
    obtain ⟨zs, hzs⟩ : ∃ zs, xs.set k v = zs := ⟨_, rfl⟩
    rw [hzs] at HB3; clear hzs
    obtain ⟨r, hr⟩ : ∃ r, (xs == zs) = r := ⟨_, rfl⟩
    have HR := Lib.hid hr; clear hr
    have c1 := run_conv (P := Try.prog) HB1.out 32 5 9 Try.underlying32 Try.underlying5 Try.underlying9 c
    have c2 := run_conv (P := Try.prog) HB2.out 32 5 9 Try.underlying32 Try.underlying5 Try.underlying9 d
    have c3 := run_conv (P := Try.prog) HB3.out 32 5 9 Try.underlying32 Try.underlying5 Try.underlying9 c'
    have e1 := (str_eq HA.out.byte HB.out.byte).trans HP.out
    have e2 := (str_eq HA.out.byte HB3.out.byte).trans HR.out
    generalize strOfNums xs = s1 at *
    generalize strOfNums ys = s2 at *
    generalize strOfNums zs = s3 at *
    cases p <;> cases r
    all_goals
      go_wp2_with (go_at_call 20; (with_reducible refine (hpick_c _ _ (by omega) (by omega) _).mono ?_); rintro e w' ⟨rfl, rfl⟩; rw [HK.out])
      go_wp2_with (go_at_call 11; (with_reducible refine (known_c _).mono ?_); rintro e w' ⟨rfl, rfl⟩)
      refine (same_p A B n c m d xs ys _ _ HP.out (HB1.out.below (Below.refl _ _)) (HB2.out.below (Below.refl _ _)) (by unfold maxLen; omega)).mono ?_
      rintro e w' ⟨rfl, k1, rfl⟩
      go_wp2_with fail
      refine (same_p A (some ⟨g, o, none⟩) n c n c' xs zs _ _ HR.out HB1.out.drewN HB3.out.drewN (by unfold maxLen; omega)).mono ?_
      rintro e w' ⟨rfl, k2, rfl⟩
      go_wp2_with fail
      refine (same_p A A n c n c xs xs _ true (beq_self_eq_true _) HB1.out.drewN HB1.out.drewN (by unfold maxLen; omega)).mono ?_
      rintro e w' ⟨rfl, k3, rfl⟩
      go_wp2_with fail
      go_ret
      exact ⟨rfl, below_drewN HBL.out _⟩
theorem byte_wf {x : Int} (h : (Lit.int .u8 x).wf = true) : 0 ≤ x ∧ x ≤ 255 := by
  simp [Lit.wf, IntKind.min, IntKind.max, IntKind.signed, IntKind.bits] at h; omega
theorem cells_u8 : Try.prog.cellsOf 5 = 1 := by kernel_rfl
theorem bytes_u8 : Try.prog.bytesOf 5 = 1 := by kernel_rfl
/-- an argument that is a slice of bytes -/
theorem arg_bytes {w : World} {v : Value} (h : Vw.Arg Try.prog w 32 v) :
    ∃ A n c xs, v = .slice A n c ∧ Bs w A n xs ∧ n ≤ c ∧ c ≤ 140737488351232 ∧ (A = none → c = 0) := by
  rcases h.slice Try.underlying32 with rfl | ⟨a, n, c, rfl, h1, h2, h3, h4⟩
  · exact ⟨none, 0, 0, [], rfl, ⟨rfl, by simp, fun _ => rfl, fun _ _ _ _ e => by cases e⟩, Nat.le_refl _, by omega, fun _ => rfl⟩
  · obtain ⟨xs, g1, g2, g3, g4⟩ := Vw.viewed_ints Try.underlying5 cells_u8 h4
    rw [bytes_u8, Nat.mul_one] at h3
    have h3 : c ≤ 140737488351232 := h3
    refine ⟨some a, n, c, xs.take n, rfl, ⟨by simp [g1, h1], fun x hx => byte_wf (g2 x (List.mem_of_mem_take hx)), by simp, ?_⟩, h1, h3, by simp⟩
    rintro b o s i hA hi
    injection hA with hA; subst hA
    have g5 := g4 i (by omega)
    refine ⟨by rw [g5]; simp [List.getD_eq_getElem?_getD, hi], g3 (by omega), World.block_lt_of_cell? w ⟨b, o + i, none⟩ g5⟩
theorem wordBytes_top (v0 v1 v2 v3 : Value) (w : World) (u0 : Vw.Arg Try.prog w 32 v0) (u1 : Vw.Arg Try.prog w 32 v1) (u2 : Vw.Arg Try.prog w 3 v2) (u3 : Vw.Arg Try.prog w 5 v3) :
    Calls Try.prog 6 #[v0, v1, v2, v3] w fun e w' => e = .returned (.bool true) ∧ Below w.heap.size w w' := by
  obtain ⟨A, n, c, xs, rfl, ha, hn, hc, h0⟩ := arg_bytes u0
  obtain ⟨B, m, d, ys, rfl, hb, _⟩ := arg_bytes u1
  obtain ⟨q, rfl, _⟩ := u2.int Try.underlying3
  obtain ⟨z, rfl, hz⟩ := u3.int Try.underlying5
  exact wordBytes_walk A B n c m d xs ys q z w ha hb (by omega) hn h0 (byte_wf hz)
end Go.Proofs.Ytelkohkacdocpaa
