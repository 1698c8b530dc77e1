/- Thumb: every halfword, every instruction: plain. No program in sight. -/
import Derived.Test.YtpcjkllhieiiiaaTk1
import Derived.Test.YtpcjkllhieiiiaaTk2
import Derived.Test.YtpcjkllhieiiiaaTk3
import Derived.Test.YtpcjkllhieiiiaaTk4
import Derived.Test.YtpcjkllhieiiiaaTk5
import Derived.Test.YtpcjkllhieiiiaaTk6
import Derived.Test.YtpcjkllhieiiiaaTk7
import Derived.Test.YtpcjkllhieiiiaaTb1
import Derived.Test.YtpcjkllhieiiiaaTb2
import Derived.Test.YtpcjkllhieiiiaaTb3
import Derived.Test.YtpcjkllhieiiiaaTb4
import Derived.Test.YtpcjkllhieiiiaaTb5
namespace Go.Proofs.Th
open Go.RowKit Go.Proofs.On
theorem chk_of {lo : Nat} (h : ((List.range 8).all fun i => chkB (lo + i)) = true) (a : Int) (h0 : (lo : Int) * 256 ≤ a) (h1 : a < ((lo : Int) + 8) * 256) : chkH a = true := by
  rw [List.all_eq_true] at h
  obtain ⟨n, rfl⟩ : ∃ n : Nat, a = n := ⟨a.toNat, by omega⟩
  have := h (n / 256 - lo) (List.mem_range.mpr (by omega))
  unfold chkB at this
  rw [List.all_eq_true] at this
  have := this (n % 256) (List.mem_range.mpr (by omega))
  rw [show (lo + (n / 256 - lo)) * 256 + n % 256 = n by omega] at this
  exact this
theorem chkH_all (a : Int) (h0 : 0 ≤ a) (h1 : a < 65536) (h2 : a / 2048 ≠ 30) : chkH a = true := by
  by_cases c0 : a < 2048
  · exact chk_of chk_0 a (by omega) (by omega)
  by_cases c8 : a < 4096
  · exact chk_of chk_8 a (by omega) (by omega)
  by_cases c16 : a < 6144
  · exact chk_of chk_16 a (by omega) (by omega)
  by_cases c24 : a < 8192
  · exact chk_of chk_24 a (by omega) (by omega)
  by_cases c32 : a < 10240
  · exact chk_of chk_32 a (by omega) (by omega)
  by_cases c40 : a < 12288
  · exact chk_of chk_40 a (by omega) (by omega)
  by_cases c48 : a < 14336
  · exact chk_of chk_48 a (by omega) (by omega)
  by_cases c56 : a < 16384
  · exact chk_of chk_56 a (by omega) (by omega)
  by_cases c64 : a < 18432
  · exact chk_of chk_64 a (by omega) (by omega)
  by_cases c72 : a < 20480
  · exact chk_of chk_72 a (by omega) (by omega)
  by_cases c80 : a < 22528
  · exact chk_of chk_80 a (by omega) (by omega)
  by_cases c88 : a < 24576
  · exact chk_of chk_88 a (by omega) (by omega)
  by_cases c96 : a < 26624
  · exact chk_of chk_96 a (by omega) (by omega)
  by_cases c104 : a < 28672
  · exact chk_of chk_104 a (by omega) (by omega)
  by_cases c112 : a < 30720
  · exact chk_of chk_112 a (by omega) (by omega)
  by_cases c120 : a < 32768
  · exact chk_of chk_120 a (by omega) (by omega)
  by_cases c128 : a < 34816
  · exact chk_of chk_128 a (by omega) (by omega)
  by_cases c136 : a < 36864
  · exact chk_of chk_136 a (by omega) (by omega)
  by_cases c144 : a < 38912
  · exact chk_of chk_144 a (by omega) (by omega)
  by_cases c152 : a < 40960
  · exact chk_of chk_152 a (by omega) (by omega)
  by_cases c160 : a < 43008
  · exact chk_of chk_160 a (by omega) (by omega)
  by_cases c168 : a < 45056
  · exact chk_of chk_168 a (by omega) (by omega)
  by_cases c176 : a < 47104
  · exact chk_of chk_176 a (by omega) (by omega)
  by_cases c184 : a < 49152
  · exact chk_of chk_184 a (by omega) (by omega)
  by_cases c192 : a < 51200
  · exact chk_of chk_192 a (by omega) (by omega)
  by_cases c200 : a < 53248
  · exact chk_of chk_200 a (by omega) (by omega)
  by_cases c208 : a < 55296
  · exact chk_of chk_208 a (by omega) (by omega)
  by_cases c216 : a < 57344
  · exact chk_of chk_216 a (by omega) (by omega)
  by_cases c224 : a < 59392
  · exact chk_of chk_224 a (by omega) (by omega)
  by_cases c232 : a < 61440
  · exact chk_of chk_232 a (by omega) (by omega)
  exact chk_of chk_248 a (by omega) (by omega)
theorem back_all (i : Ins) (h28 : i.op ≠ 28) (h43 : i.op ≠ 43) (hr : rightS i = true) : back1 i = true := by
  refine back_of ?_ h28 h43 hr
  by_cases e1 : i.op = 1
  · rw [e1]; exact backAll_1
  by_cases e2 : i.op = 2
  · rw [e2]; exact backAll_2
  by_cases e3 : i.op = 3
  · rw [e3]; exact backAll_3
  by_cases e4 : i.op = 4
  · rw [e4]; exact backAll_4
  by_cases e5 : i.op = 5
  · rw [e5]; exact backAll_5
  by_cases e6 : i.op = 6
  · rw [e6]; exact backAll_6
  by_cases e7 : i.op = 7
  · rw [e7]; exact backAll_7
  by_cases e8 : i.op = 8
  · rw [e8]; exact backAll_8
  by_cases e9 : i.op = 9
  · rw [e9]; exact backAll_9
  by_cases e10 : i.op = 10
  · rw [e10]; exact backAll_10
  by_cases e11 : i.op = 11
  · rw [e11]; exact backAll_11
  by_cases e12 : i.op = 12
  · rw [e12]; exact backAll_12
  by_cases e13 : i.op = 13
  · rw [e13]; exact backAll_13
  by_cases e14 : i.op = 14
  · rw [e14]; exact backAll_14
  by_cases e15 : i.op = 15
  · rw [e15]; exact backAll_15
  by_cases e16 : i.op = 16
  · rw [e16]; exact backAll_16
  by_cases e17 : i.op = 17
  · rw [e17]; exact backAll_17
  by_cases e18 : i.op = 18
  · rw [e18]; exact backAll_18
  by_cases e19 : i.op = 19
  · rw [e19]; exact backAll_19
  by_cases e20 : i.op = 20
  · rw [e20]; exact backAll_20
  by_cases e21 : i.op = 21
  · rw [e21]; exact backAll_21
  by_cases e22 : i.op = 22
  · rw [e22]; exact backAll_22
  by_cases e23 : i.op = 23
  · rw [e23]; exact backAll_23
  by_cases e24 : i.op = 24
  · rw [e24]; exact backAll_24
  by_cases e25 : i.op = 25
  · rw [e25]; exact backAll_25
  by_cases e26 : i.op = 26
  · rw [e26]; exact backAll_26
  by_cases e27 : i.op = 27
  · rw [e27]; exact backAll_27
  by_cases e29 : i.op = 29
  · rw [e29]; exact backAll_29
  by_cases e30 : i.op = 30
  · rw [e30]; exact backAll_30
  by_cases e31 : i.op = 31
  · rw [e31]; exact backAll_31
  by_cases e32 : i.op = 32
  · rw [e32]; exact backAll_32
  by_cases e33 : i.op = 33
  · rw [e33]; exact backAll_33
  by_cases e34 : i.op = 34
  · rw [e34]; exact backAll_34
  by_cases e35 : i.op = 35
  · rw [e35]; exact backAll_35
  by_cases e36 : i.op = 36
  · rw [e36]; exact backAll_36
  by_cases e37 : i.op = 37
  · rw [e37]; exact backAll_37
  by_cases e38 : i.op = 38
  · rw [e38]; exact backAll_38
  by_cases e39 : i.op = 39
  · rw [e39]; exact backAll_39
  by_cases e40 : i.op = 40
  · rw [e40]; exact backAll_40
  by_cases e41 : i.op = 41
  · rw [e41]; exact backAll_41
  by_cases e42 : i.op = 42
  · rw [e42]; exact backAll_42
  by_cases e44 : i.op = 44
  · rw [e44]; exact backAll_44
  by_cases e45 : i.op = 45
  · rw [e45]; exact backAll_45
  have hA : ¬ (12 ≤ i.op ∧ i.op ≤ 27) := by omega
  have hM : ¬ (8 ≤ i.op ∧ i.op ≤ 11) := by omega
  have hn : rowOf i.op = none := by simp [rowOf, hA, hM, e1, e2, e3, e4, e5, e6, e7, e29, e30, e31, e32, e33, e34, e35, e36, e37, e38, e39, e40, e41, e42, e44, e45]
  unfold backAll
  rw [hn]
end Go.Proofs.Th
