/- ThumbEncodes. -/
import Derived.Test.YtpcjkllhieiiiaaTe7
import Derived.Test.YtpcjkllhieiiiaaTe9
import Derived.Deep.DeepCutAuto
import Derived.Deep.CutBlock
import Derived.BigGuardPart
namespace Go.Proofs.Ytpcjkllhieiiiaa
open Go.RowKit On Th
theorem viewed_ins {w : World} {es : List Value} (h : Vw.Viewed Try.prog w 24 es) :
    ∃ x0 x1 x2 x3 x4 x5 : Int, es = [.int .i64 x0, .int .i64 x1, .int .i64 x2, .int .i64 x3, .int .i64 x4, .int .i64 x5] := by
  obtain ⟨hl, hf⟩ := Vw.viewed_struct Try.underlying24 h
  rw [show Try.prog.cellsOf 24 = 6 by kernel_rfl] at hl
  have f0 : Vw.Viewed Try.prog w 3 ((es.drop 0).take (Try.prog.cellsOf 3)) := hf 0 _ rfl
  have f1 : Vw.Viewed Try.prog w 3 ((es.drop 1).take (Try.prog.cellsOf 3)) := hf 1 _ rfl
  have f2 : Vw.Viewed Try.prog w 3 ((es.drop 2).take (Try.prog.cellsOf 3)) := hf 2 _ rfl
  have f3 : Vw.Viewed Try.prog w 3 ((es.drop 3).take (Try.prog.cellsOf 3)) := hf 3 _ rfl
  have f4 : Vw.Viewed Try.prog w 3 ((es.drop 4).take (Try.prog.cellsOf 3)) := hf 4 _ rfl
  have f5 : Vw.Viewed Try.prog w 3 ((es.drop 5).take (Try.prog.cellsOf 3)) := hf 5 _ rfl
  rw [cells_int1] at f0 f1 f2 f3 f4 f5
  obtain ⟨n0, e0, _⟩ := Vw.viewed_int Try.underlying3 f0
  obtain ⟨n1, e1, _⟩ := Vw.viewed_int Try.underlying3 f1
  obtain ⟨n2, e2, _⟩ := Vw.viewed_int Try.underlying3 f2
  obtain ⟨n3, e3, _⟩ := Vw.viewed_int Try.underlying3 f3
  obtain ⟨n4, e4, _⟩ := Vw.viewed_int Try.underlying3 f4
  obtain ⟨n5, e5, _⟩ := Vw.viewed_int Try.underlying3 f5
  match es, hl with
  | [a, b, c', d, e, f], _ =>
    simp at e0 e1 e2 e3 e4 e5
    subst e0; subst e1; subst e2; subst e3; subst e4; subst e5
    exact ⟨_, _, _, _, _, _, rfl⟩
theorem arg_ins {w : World} {v : Value} (u : Vw.Arg Try.prog w 24 v) : ∃ x0 x1 x2 x3 x4 x5 : Int, v = .agg #[.int .i64 x0, .int .i64 x1, .int .i64 x2, .int .i64 x3, .int .i64 x4, .int .i64 x5] := by
  obtain ⟨cs, rfl, _, _⟩ := Vw.Arg.struct Try.underlying24 u
  obtain ⟨x0, x1, x2, x3, x4, x5, e⟩ := viewed_ins u.1
  have e : cs.toList = _ := e
  exact ⟨x0, x1, x2, x3, x4, x5, by rw [← Array.toArray_toList (xs := cs), e]⟩
set_option maxHeartbeats 16000000 in
set_option maxRecDepth 100000 in
theorem thumbEncodes_top (v0 v1 v2 : Value) (w : World) (u0 : Vw.Arg Try.prog w 23 v0) (u1 : Vw.Arg Try.prog w 24 v1) (u2 : Vw.Arg Try.prog w 4 v2) :
    Calls Try.prog 3 #[v0, v1, v2] w fun e w' => e = .returned (.bool true) ∧ Below w.heap.size w w' := by
  obtain ⟨x0, x1, x2, x3, x4, x5, rfl⟩ := arg_raw u0
  obtain ⟨a0, a1, a2, a3, a4, a5, rfl⟩ := arg_ins u1
  obtain ⟨wh, rfl⟩ := Vw.Arg.bool Try.underlying4 u2
  clear u0 u1 u2
  have HB0 : Hid (Below w.heap.size w ((w.alloc (.cells #[.int .i64 x0, .int .i64 x1, .int .i64 x2, .int .i64 x3, .int .i64 x4, .int .i64 x5] 23)).alloc (.cells #[.int .i64 a0, .int .i64 a1, .int .i64 a2, .int .i64 a3, .int .i64 a4, .int .i64 a5] 24))) := ((Below.refl _ _).alloc (Nat.le_refl _) _).alloc (by simp) _
  have KA : Hid (Blk ((w.alloc (.cells #[.int .i64 x0, .int .i64 x1, .int .i64 x2, .int .i64 x3, .int .i64 x4, .int .i64 x5] 23)).alloc (.cells #[.int .i64 a0, .int .i64 a1, .int .i64 a2, .int .i64 a3, .int .i64 a4, .int .i64 a5] 24)) (w.heap.size + 1) 24 #[.int .i64 a0, .int .i64 a1, .int .i64 a2, .int .i64 a3, .int .i64 a4, .int .i64 a5]) := Blk.new' _ _ _ _ (by simp only [World.size_alloc])
  go_enter Try.func3, Try.ntmps3
  go_wp2_with fail
  refine (ins_c x0 x1 x2 x3 x4 x5 _).mono ?_
  rintro e w1 ⟨i, rfl, hb⟩
  have HBw := Lib.hid (HB0.out.trans (hb.mono HB0.out.size))
  have ka := (KA.out.only (S := fun _ => False) (Only.of_below hb) id).alloc (.cells #[.int .i64 i.op, .int .i64 i.d, .int .i64 i.n, .int .i64 i.m, .int .i64 i.imm, .int .i64 i.cond] 24)
  have r0 := ka.cell 0
  have r1 := ka.cell 1
  have r2 := ka.cell 2
  have r3 := ka.cell 3
  have r4 := ka.cell 4
  have r5 := ka.cell 5
  simp at r0 r1 r2 r3 r4 r5
  clear hb ka HB0 KA
  go_upto_if 12 with (fail)
  go_cut [] (fun wx => ∃ j0 j1 j2 j3 j4 j5 : Int, Blk wx w1.heap.size 24 #[.int .i64 j0, .int .i64 j1, .int .i64 j2, .int .i64 j3, .int .i64 j4, .int .i64 j5] ∧ Below w.heap.size w wx)
  case first =>
    cases wh
    all_goals
      go_wp2_with fail
      go_meet
      exact ⟨_, _, _, _, _, _, Blk.new _ _ _, HBw.out.alloc HBw.out.size _⟩
  case rest =>
    clear r0 r1 r2 r3 r4 r5
    obtain ⟨j0, j1, j2, j3, j4, j5, kj, hb⟩ := hcut
    have hcut : ∃ j : Ins, Blk wc w1.heap.size 24 #[.int .i64 j.op, .int .i64 j.d, .int .i64 j.n, .int .i64 j.m, .int .i64 j.imm, .int .i64 j.cond] := ⟨⟨j0, j1, j2, j3, j4, j5⟩, kj⟩
    clear kj
    obtain ⟨j, kj⟩ := hcut
    clear j0 j1 j2 j3 j4 j5
    have HB := Lib.hid hb
    have KJ := Lib.hid kj
    have c0 := kj.cell 0
    have c1 := kj.cell 1
    have c2 := kj.cell 2
    have c3 := kj.cell 3
    have c4 := kj.cell 4
    have c5 := kj.cell 5
    simp at c0 c1 c2 c3 c4 c5
    clear hb kj
    go_wp2_with fail
    refine (encode_c j _).mono ?_
    intro e w2 h
    cases hr : rightS j
    · rw [hr, if_neg (by simp)] at h
      obtain ⟨rfl, hb⟩ := h
      have HR := Lib.hid hr
      have HB2 := Lib.hid (HB.out.trans (hb.mono HB.out.size))
      have KJ2 := Lib.hid (KJ.out.only (S := fun _ => False) (Only.of_below hb) id)
      clear hb hr c0 c1 c2 c3 c4 c5
      have c0 := KJ2.out.cell 0
      have c1 := KJ2.out.cell 1
      have c2 := KJ2.out.cell 2
      have c3 := KJ2.out.cell 3
      have c4 := KJ2.out.cell 4
      have c5 := KJ2.out.cell 5
      simp at c0 c1 c2 c3 c4 c5
      go_wp2_with fail
      refine (refRight_c j _).mono ?_
      rintro e w3 ⟨rfl, hb⟩
      rw [HR.out]
      have HB3 := Lib.hid (HB2.out.trans (hb.mono HB2.out.size))
      have KJ3 := Lib.hid (KJ2.out.only (S := fun _ => False) (Only.of_below hb) id)
      clear hb c0 c1 c2 c3 c4 c5
      go_wp2_with fail
      refine (known_c _).mono ?_
      rintro e w4 ⟨rfl, hb⟩
      have HB4 := Lib.hid (HB3.out.trans (hb.mono HB3.out.size))
      have KJ4 := Lib.hid (KJ3.out.only (S := fun _ => False) (Only.of_below hb) id)
      clear hb
      have c0 := KJ4.out.cell 0
      have c1 := KJ4.out.cell 1
      have c2 := KJ4.out.cell 2
      have c3 := KJ4.out.cell 3
      have c4 := KJ4.out.cell 4
      have c5 := KJ4.out.cell 5
      simp at c0 c1 c2 c3 c4 c5
      go_wp2_with fail
      refine (right_c j _).mono ?_
      rintro e w5 ⟨rfl, hb⟩
      rw [HR.out]
      have HB5 := Lib.hid (HB4.out.trans (hb.mono HB4.out.size))
      have KJ5 := Lib.hid (KJ4.out.only (S := fun _ => False) (Only.of_below hb) id)
      clear hb c0 c1 c2 c3 c4 c5
      go_wp2_with fail
      go_ret
      exact ⟨rfl, HB5.out⟩
    · rw [hr, if_pos rfl] at h
      obtain ⟨s1, rfl, hs1, hb⟩ := h.hw (enc_range j hr).1
      have HR := Lib.hid hr
      have HB2 := Lib.hid (HB.out.trans (hb.mono HB.out.size))
      have KJ2 := Lib.hid (KJ.out.only (S := fun _ => False) (Only.of_below hb) id)
      have HS2 := Lib.hid hs1
      clear h hs1 hb hr c0 c1 c2 c3 c4 c5
      have c0 := KJ2.out.cell 0
      have c1 := KJ2.out.cell 1
      have c2 := KJ2.out.cell 2
      have c3 := KJ2.out.cell 3
      have c4 := KJ2.out.cell 4
      have c5 := KJ2.out.cell 5
      simp at c0 c1 c2 c3 c4 c5
      go_wp2_with fail
      refine (refRight_c j _).mono ?_
      rintro e w3 ⟨rfl, hb⟩
      rw [HR.out]
      have HB3 := Lib.hid (HB2.out.trans (hb.mono HB2.out.size))
      have KJ3 := Lib.hid (KJ2.out.only (S := fun _ => False) (Only.of_below hb) id)
      have HS3 := Lib.hid (HS2.out.below hb)
      clear hb c0 c1 c2 c3 c4 c5
      go_wp2_with fail
      refine (known_c _).mono ?_
      rintro e w4 ⟨rfl, hb⟩
      have HB4 := Lib.hid (HB3.out.trans (hb.mono HB3.out.size))
      have KJ4 := Lib.hid (KJ3.out.only (S := fun _ => False) (Only.of_below hb) id)
      have HS4 := Lib.hid (HS3.out.below hb)
      clear hb
      have c0 := KJ4.out.cell 0
      have c1 := KJ4.out.cell 1
      have c2 := KJ4.out.cell 2
      have c3 := KJ4.out.cell 3
      have c4 := KJ4.out.cell 4
      have c5 := KJ4.out.cell 5
      simp at c0 c1 c2 c3 c4 c5
      go_wp2_with fail
      refine (right_c j _).mono ?_
      rintro e w5 ⟨rfl, hb⟩
      rw [HR.out]
      have HB5 := Lib.hid (HB4.out.trans (hb.mono HB4.out.size))
      have KJ5 := Lib.hid (KJ4.out.only (S := fun _ => False) (Only.of_below hb) id)
      have HS5 := Lib.hid (HS4.out.below hb)
      clear hb c0 c1 c2 c3 c4 c5
      have c0 := KJ5.out.cell 0
      have c1 := KJ5.out.cell 1
      have c2 := KJ5.out.cell 2
      have c3 := KJ5.out.cell 3
      have c4 := KJ5.out.cell 4
      have c5 := KJ5.out.cell 5
      simp at c0 c1 c2 c3 c4 c5
      go_wp2_with fail
      refine (refEncode_c j HR.out _).mono ?_
      rintro e w6 ⟨s2, rfl, hs2, hb⟩
      have HB6 := Lib.hid (HB5.out.trans (hb.mono HB5.out.size))
      have HS6 := Lib.hid (HS5.out.below hb)
      have HT6 := Lib.hid hs2
      clear hs2 hb c0 c1 c2 c3 c4 c5
      go_wp2_with fail
      refine (halves_c HS6.out HT6.out (by have := (enc_range j HR.out).2; omega)).mono ?_
      rintro e w7 ⟨rfl, hb⟩
      rw [decide_eq_true (rfl : encL j = encL j)]
      have HB7 := Lib.hid (HB6.out.trans (hb.mono HB6.out.size))
      clear hb
      go_wp2_with fail
      go_ret
      exact ⟨rfl, HB7.out⟩
end Go.Proofs.Ytpcjkllhieiiiaa
