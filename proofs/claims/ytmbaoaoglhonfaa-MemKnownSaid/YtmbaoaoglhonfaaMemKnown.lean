/- The walk of MemKnown. -/
import Derived.Test.YtmbaoaoglhonfaaMemBytes
import Derived.Test.YtmbaoaoglhonfaaMem3
namespace Go.Proofs.Ytmbaoaoglhonfaa
open Go.RowKit On
theorem Hs.lits {w : World} {b n : Nat} {xs : List Int} (t : TypeId) (hb : Blk w b t (xs.map (fun x => Value.int .u16 x)).toArray) (hn : xs.length = n) (hx : ∀ x ∈ xs, 0 ≤ x ∧ x ≤ 65535) : Hs w (some ⟨b, 0, none⟩) n xs where
  len := hn
  half := hx
  none_ := nofun
  cell := by
    intro b' o s i h hi
    cases h
    refine ⟨?_, rfl, hb.lt⟩
    rw [hb.cell]
    have : i < xs.length := by omega
    simp [List.getD_eq_getElem?_getD, this]
def kf1 : Nat → Int := loadB (fun _ => 0) 4 [4660, 43981] 2
def kf2 : Nat → Int := setB kf1 262140 4 16909060
def kf3 : Nat → Int := upd kf2 131072 9
theorem kf_half : getB kf1 6 2 = 43981 := by decide +kernel
theorem kf_word : getB kf1 4 4 = 2882343476 := by decide +kernel
theorem kf_byte : kf2 262140 = 4 := by decide +kernel
theorem kf_nine : getB kf3 131072 4 = 9 := by decide +kernel
set_option maxHeartbeats 1000000 in
set_option maxRecDepth 100000 in
theorem memKnown_walk (w : World) :
    Calls Try.prog 7 #[] w fun e w' => e = .returned (.bool true) ∧ Below w.heap.size w w' := by
  have n1 : ∀ (w : World) (a : Addr), (binOp .eql 40 (.pointer (some a)) (.pointer none)).run Try.prog w = .ok (.bool false) w := by
    intro w a; go_simp
  go_enter Try.func7, Try.ntmps7
  go_wp2_with fail
  refine (memNew_c w).mono ?_
  rintro e w1 ⟨p, g, rfl, hm, hp, hg, hbl⟩
  have HM := Lib.hid hm; have HBL := Lib.hid hbl; have HP := Lib.hid hp; have HG := Lib.hid hg; clear hm hbl hp hg
  go_wp2_with fail
  refine (memKnown_c w1).mono ?_
  rintro e w2 ⟨rfl, hb2⟩
  have HM2 := Lib.hid (HM.out.below hb2)
  have HBL2 := Lib.hid (HBL.out.trans (hb2.mono HBL.out.size))
  clear hb2 HM HBL
  go_wp2_with fail
  have HM3 : Hid (Mm (w2.alloc (.cells #[.int .u16 4660, .int .u16 43981] 51)) 68 p g (fun _ => 0)) := HM2.out.below ((Below.refl _ _).alloc (Nat.le_refl _) _)
  have HBL3 : Hid (Below w.heap.size w (w2.alloc (.cells #[.int .u16 4660, .int .u16 43981] 51))) := HBL2.out.alloc HBL2.out.size _
  refine (load_yes _ p g _ 4 _ 2 2 [4660, 43981] HM3.out (Hs.lits 51 (Blk.new _ _ _) rfl (by decide)) (fun b o s h _ => by cases h; have := HM2.out.lt.2; omega) (by unfold canLoad; omega)).mono ?_
  rintro e w3 ⟨rfl, hm, hO⟩
  rw [show loadB (fun _ => 0) (4 : Int).toNat [4660, 43981] 2 = kf1 from rfl] at hm
  have HM4 := Lib.hid hm
  have HBL4 : Hid (Below w.heap.size w w3) := HBL3.out.trans (hO.below HBL3.out.size (fun j hj => by have := HG.out; omega))
  clear hm hO HM3 HBL3 HM2 HBL2
  go_wp2_with fail
  refine (load_no w3 _ 3 none 0 0 (by unfold canLoad; omega)).mono ?_
  rintro e w' ⟨rfl, rfl⟩
  go_wp2_with fail
  have HM5 : Hid (Mm (w3.alloc (.cells #[.int .u16 1, .int .u16 2] 51)) 68 p g kf1) := HM4.out.below ((Below.refl _ _).alloc (Nat.le_refl _) _)
  have HBL5 : Hid (Below w.heap.size w (w3.alloc (.cells #[.int .u16 1, .int .u16 2] 51))) := HBL4.out.alloc HBL4.out.size _
  refine (load_no _ _ 131070 _ 2 2 (by unfold canLoad; omega)).mono ?_
  rintro e w' ⟨rfl, rfl⟩
  generalize w3.alloc (.cells #[.int .u16 1, .int .u16 2] 51) = w5 at *
  clear HM4 HBL4
  go_wp2_with fail
  refine (load_yes w5 p g _ 131072 none 0 0 [] HM5.out ⟨rfl, nofun, fun _ => rfl, nofun⟩ nofun (by unfold canLoad; omega)).mono ?_
  rintro e w6 ⟨rfl, hm, hO⟩
  rw [show loadB kf1 (131072 : Int).toNat [] 0 = kf1 from rfl] at hm
  have HM6 := Lib.hid hm
  have HBL6 : Hid (Below w.heap.size w w6) := HBL5.out.trans (hO.below HBL5.out.size (fun j hj => by have := HG.out; omega))
  clear hm hO HM5 HBL5
  go_wp2_with fail
  refine (half_yes w6 p g _ 6 HM6.out (by omega) (by omega) (by omega)).mono ?_
  rintro e w' ⟨rfl, rfl⟩
  rw [show getB kf1 (6 : Int).toNat 2 = 43981 from kf_half]
  go_wp2_with fail
  refine (half_no w6 _ 131072 (by omega)).mono ?_
  rintro e w' ⟨rfl, rfl⟩
  go_wp2_with fail
  refine (word_yes w6 p g _ 4 HM6.out (by omega) (by omega) (by omega)).mono ?_
  rintro e w' ⟨rfl, rfl⟩
  rw [show getB kf1 (4 : Int).toNat 4 = 2882343476 from kf_word]
  go_wp2_with fail
  refine (setword_yes w6 p g _ 262140 16909060 HM6.out (by omega) (by omega) (by omega)).mono ?_
  rintro e w7 ⟨rfl, hm, hO⟩
  rw [show setB kf1 (262140 : Int).toNat 4 16909060 = kf2 from rfl] at hm
  have HM7 := Lib.hid hm
  have HBL7 : Hid (Below w.heap.size w w7) := HBL6.out.trans (hO.below HBL6.out.size (fun j hj => by have := HG.out; omega))
  clear hm hO HM6 HBL6
  go_wp2_with fail
  refine (byte_yes w7 p g _ 262140 HM7.out (by omega) (by omega)).mono ?_
  rintro e w' ⟨rfl, rfl⟩
  rw [show kf2 (262140 : Int).toNat = 4 from kf_byte]
  go_wp2_with fail
  refine (setword_no w7 _ 262144 1 (by omega)).mono ?_
  rintro e w' ⟨rfl, rfl⟩
  go_wp2_with fail
  refine (setbyte_yes w7 p g _ 131072 9 HM7.out (by omega) (by omega) (by omega)).mono ?_
  rintro e w8 ⟨rfl, hm, hO⟩
  rw [show upd kf2 (131072 : Int).toNat 9 = kf3 from rfl] at hm
  have HM8 := Lib.hid hm
  have HBL8 : Hid (Below w.heap.size w w8) := HBL7.out.trans (hO.below HBL7.out.size (fun j hj => by have := HG.out; omega))
  clear hm hO HM7 HBL7
  go_wp2_with fail
  refine (word_yes w8 p g _ 131072 HM8.out (by omega) (by omega) (by omega)).mono ?_
  rintro e w' ⟨rfl, rfl⟩
  rw [show getB kf3 (131072 : Int).toNat 4 = 9 from kf_nine]
  go_wp2_with fail
  refine (setbyte_no w8 _ 4 9 (by omega)).mono ?_
  rintro e w' ⟨rfl, rfl⟩
  go_wp2_with fail
  go_ret
  exact ⟨rfl, HBL8.out⟩
theorem memKnown_top (w : World) : Calls Try.prog 7 #[] w fun e w' => e = .returned (.bool true) ∧ Below w.heap.size w w' := memKnown_walk w
end Go.Proofs.Ytmbaoaoglhonfaa
