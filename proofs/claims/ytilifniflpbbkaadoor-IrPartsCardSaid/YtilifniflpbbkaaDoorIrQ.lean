/- The walk of IrParts. -/
import Derived.Test.YtilifniflpbbkaaDoorIrE
import Derived.Laws.CopyOwn
namespace Go.Proofs.YtilifniflpbbkaaDoor
open Go.RowKit On
theorem evalS_bound (l : List Nd) (k : Nat) : ∀ s : List Int × Int × Int, s.2.2 ≤ (evalS l k s).2.2 ∧ (evalS l k s).2.2 ≤ s.2.2 + k := by
  induction k with
  | zero => intro s; simp [evalS]
  | succ k ih =>
    intro s
    unfold evalS
    split
    · have h := ih (rnd l s)
      have h2 : s.2.2 ≤ (rnd l s).2.2 ∧ (rnd l s).2.2 ≤ s.2.2 + 1 := by
        unfold rnd
        dsimp only
        split <;> omega
      omega
    · omega
theorem info_size32 : (Tryd.prog.info? 21).map (·.size) = some 1 := by kernel_rfl
set_option maxHeartbeats 16000000 in
set_option maxRecDepth 100000 in
theorem irParts_walk (A : Option Addr) (L c : Nat) (regs : Int) (V : Option Addr) (vc : Nat) (nums : List Int) (cut_ most : Int) (w : World) (hx : Raws w A L) (hbins : Bins w) (hv : Ints .i32 w (.slice V nums.length vc) nums) (hR : ∀ x ∈ nums, Wd.R x) :
    Calls Tryd.prog 6 #[.slice A L c, .int .i64 regs, .slice V nums.length vc, .int .i64 cut_, .int .i64 most] w fun e w' => e = .returned (.bool true) ∧ Below w.heap.size w w' := by
  have HTM := Lib.hid (tame_c A L c regs 0 w hx hbins)
  have HV := Lib.hid hv
  have HR := Lib.hid hR
  clear hx hbins hv hR
  have hmk := fun (n : Nat) (hn : n ≤ 41) (W : World) => run_make_row' (P := Tryd.prog) 59 21 (.int .i32 0) 4 Tryd.underlying59 info_int32 rfl .i64 .i64 n (by omega) (by omega) W
  obtain ⟨nl, hnl'⟩ : ∃ nl, nums.length = nl := ⟨_, rfl⟩
  have HNL := Lib.hid hnl'
  rw [hnl'] at HV ⊢
  clear hnl'
  go_enter Tryd.func6, Tryd.ntmps6
  go_wp2_with fail
  refine (HTM.out).mono ?_
  rintro e w1 ⟨pa, rg, PA, pc, l, rfl, hpg, hck, h41, hr1, hr14, hp0, hp4, hb1⟩
  obtain ⟨nx, rfl⟩ : ∃ nx : Nat, rg = nx := ⟨rg.toNat, by omega⟩
  obtain ⟨n, hn⟩ : ∃ n, l.length = n := ⟨_, rfl⟩
  have hn1 : 1 ≤ n := by have := hck.1; omega
  rw [hn] at hpg h41 ⊢
  obtain ⟨w0, hw0⟩ : ∃ w0, w0 = w1.alloc (.cells #[.int .i64 pa, .int .i64 nx, .slice PA n pc] 46) := ⟨_, rfl⟩
  obtain ⟨P, hP⟩ : ∃ P, P = w1.heap.size := ⟨_, rfl⟩
  have kp : Blk w0 P 46 #[.int .i64 pa, .int .i64 nx, .slice PA n pc] := by rw [hw0, hP]; exact Blk.new w1 _ _
  have hbw : Below w.heap.size w w0 := by rw [hw0]; exact hb1.alloc hb1.size _
  have hnod : Nodes w0 PA l := by rw [hw0]; exact (hpg.nodes' hn).keep ((Below.refl _ _).alloc (Nat.le_refl _) _)
  have HOKS : Hid (∀ x ∈ l, x.ok w1) := hpg.ok
  have HN := Lib.hid hn; have HCK := Lib.hid hck; have HP := Lib.hid kp; have HB := Lib.hid hbw; have HND := Lib.hid hnod; have HV0 := Lib.hid (HV.out.keep hbw)
  have hsz : w0.heap.size = P + 1 := by rw [hw0, hP, World.size_alloc]
  have HSZ := Lib.hid hsz
  clear hpg hck hb1 hn kp hbw hnod HTM HV hsz
  go_upto_region 2 with (fail)
  rw [← hw0, ← hP]
  clear hw0 hP
  have p1 := HP.out.cell 1
  simp at p1
  have hmx := hmk nx (by omega)
  clear hmk
  have HG : Hid ((w0.alloc (.cells (madeCells #[.int .i32 0] nx) 21)).heap[w0.heap.size]? = some (.cells (List.replicate nx (.int .i32 0)).toArray 21 (0, 0))) := by
    show _ = _
    rw [← toList_madeCells_one, Array.toArray_toList]; exact Blk.new w0 _ _
  obtain ⟨cs, hcs⟩ : ∃ cs, cs = (nums.take nx).map (Value.int .i32) := ⟨_, rfl⟩
  have HCN : Hid (cs.length = Nat.min nl nx) := by
    show _ = min nl nx
    rw [hcs, List.length_map, List.length_take, HNL.out]; omega
  have HPOS : Hid (0 < cs.length → some (⟨w0.heap.size, 0, none⟩ : Addr) = some ⟨w0.heap.size, 0, none⟩ ∧ ∃ ad, V = some ad ∧ ∀ j v, cs[j]? = some v → (w0.alloc (.cells (madeCells #[.int .i32 0] nx) 21)).cell? (ad.add j) = some v) := fun h => by
    have hne : nums ≠ [] := fun e => by rw [hcs, e] at h; simp at h
    obtain ⟨gv, ov, hVe, hcv⟩ := HV0.out.cells hne
    refine ⟨rfl, ⟨gv, ov, none⟩, hVe, fun j v hj => ?_⟩
    rw [hcs, List.getElem?_map, Option.map_eq_some_iff] at hj
    obtain ⟨x, hx, rfl⟩ := hj
    rw [List.getElem?_take] at hx
    split at hx
    · rw [Vw.add_none]
      have hc := hcv j x hx
      rw [((Below.refl w0.heap.size w0).alloc (Nat.le_refl _) _).cell (World.block_lt_of_cell? _ _ hc)]
      exact hc
    · cases hx
  have HONE : Hid (∀ v ∈ cs, v.oneCell' = true) := fun v hv => by
    rw [hcs, List.mem_map] at hv
    obtain ⟨x, _, rfl⟩ := hv
    rfl
  have HYS : Hid (splice (List.replicate nx (Value.int .i32 0)) 0 cs = (nums.take nx ++ List.replicate (nx - min nl nx) 0).map (Value.int .i32)) := by
    show _ = _
    have hl := HCN.out
    rw [hcs] at hl ⊢
    unfold splice
    rw [List.take_zero, List.nil_append, Nat.zero_add, List.drop_replicate, hl, List.map_append, List.map_replicate]
  have HYL0 : Hid ((nums.take nx ++ List.replicate (nx - min nl nx) 0).length = nx) := by
    show _ = _
    rw [List.length_append, List.length_take, List.length_replicate, HNL.out]; omega
  have HRY0 : Hid (∀ x ∈ nums.take nx ++ List.replicate (nx - min nl nx) 0, Wd.R x) := fun x hx => by
    rcases List.mem_append.mp hx with h | h
    · exact HR.out x (List.mem_of_mem_take h)
    · rw [(List.mem_replicate.mp h).2]; unfold Wd.R; omega
  generalize nums.take nx ++ List.replicate (nx - min nl nx) 0 = ys at *
  have hcl : cs.length ≤ nx := by have := HCN.out; rw [this]; exact Nat.min_le_right _ _
  clear hcs
  go_upto_region 3 with (fail)
  go_wp2_with (refine wpList_copy_splice rfl (.tmp 29) (.tmp 30) 59 59 rfl 21 Tryd.underlying59 info_size32 (some ⟨w0.heap.size, 0, none⟩) V nx nx nl vc rfl rfl w0.heap.size 0 (List.replicate nx (.int .i32 0)) 21 HG.out cs HCN.out HPOS.out (by simp; omega) HONE.out w0.heap.size w0 ((Below.refl _ _).alloc (Nat.le_refl _) _) (Nat.le_refl _) ?_)
  intro w2 hg2 hb2
  have HYI : Hid (Ints .i32 w2 (.slice (some ⟨w0.heap.size, 0, none⟩) nx nx) ys) := by
    have hg := hg2.out
    rw [HYS.out] at hg
    refine (Ints.own (t := 21) (base := 0) (n := nx) ⟨by rw [List.length_map, HYL0.out, Nat.mul_one], .inr ⟨w0.heap.size, nx, _, rfl, Nat.zero_le _, hg, Nat.le_refl _, by unfold maxLen; omega, by simp [HYL0.out], ?_⟩⟩).1
    rw [List.toList_toArray, List.take_of_length_le (by rw [List.length_map, HYL0.out]; omega)]
  have HB2 := Lib.hid (HB.out.trans (hb2.mono HB.out.size))
  have HN2 := Lib.hid (HND.out.keep hb2)
  have HP2 := Lib.hid (HP.out.only (S := fun _ => False) (Only.of_below hb2) id)
  have p0 := HP2.out.cell 0
  have p1 := HP2.out.cell 1
  have p2 := HP2.out.cell 2
  simp at p0 p1 p2
  clear hb2 hg2 HG HCN HPOS HONE HYS hmx HP HND HV0 HB
  generalize w0.heap.size = G at *
  go_wp2_with fail
  obtain ⟨mq, hmq, hm150⟩ : ∃ mq : Nat, most % 150 = mq ∧ mq < 150 := ⟨(most % 150).toNat, by omega, by omega⟩
  refine (pickN most 150 (by decide) (by decide) _).mono ?_
  rintro e w' ⟨rfl, rfl⟩
  rw [hmq]
  clear hmq
  go_wp2_with fail
  obtain ⟨cq, hcq, hcm⟩ : ∃ cq : Nat, cut_ % ((mq : Int) + 1) = cq ∧ cq ≤ mq := by
    have h1 := Int.emod_nonneg cut_ (show (mq : Int) + 1 ≠ 0 by omega)
    have h2 := Int.emod_lt_of_pos cut_ (show (0 : Int) < (mq : Int) + 1 by omega)
    exact ⟨(cut_ % ((mq : Int) + 1)).toNat, by omega, by omega⟩
  refine (pickN cut_ _ (by omega) (by omega) _).mono ?_
  rintro e w' ⟨rfl, rfl⟩
  rw [hcq]
  clear hcq
  have hin0 : inS 0 l.length = true := by rw [HN.out]; unfold inS; simp; omega
  have hK1 := evalS_keeps HCK.out HOKS.out mq (ys, (0 : Int), 0) HYL0.out hin0 HRY0.out
  have hK2 := evalS_keeps HCK.out HOKS.out cq (ys, (0 : Int), 0) HYL0.out hin0 HRY0.out
  have hB1 := evalS_bound l mq (ys, (0 : Int), 0)
  have hB2 := evalS_bound l cq (ys, (0 : Int), 0)
  have hadd := evalS_add l cq (mq - cq) (ys, (0 : Int), 0)
  rw [show cq + (mq - cq) = mq by omega] at hadd
  have hE1 := fun (wq : World) (h1 : Nodes wq PA l) (h2 : Ints .i32 wq (.slice (some ⟨G, 0, none⟩) ys.length nx) ys) => eval_c pa PA (some ⟨G, 0, none⟩) pc nx l ys 0 mq hin0 (by omega) wq h1 (by rw [HYL0.out]; exact HCK.out) h2 HRY0.out
  have hE2 := fun (wq : World) (h1 : Nodes wq PA l) (h2 : Ints .i32 wq (.slice (some ⟨G, 0, none⟩) ys.length nx) ys) => eval_c pa PA (some ⟨G, 0, none⟩) pc nx l ys 0 cq hin0 (by omega) wq h1 (by rw [HYL0.out]; exact HCK.out) h2 HRY0.out
  rw [HN.out, HYL0.out, Int.toNat_natCast] at hE1 hE2
  obtain ⟨⟨z1, a1, t1⟩, hz1⟩ : ∃ z, evalS l mq (ys, (0 : Int), 0) = z := ⟨_, rfl⟩
  obtain ⟨⟨z2, a2, t2⟩, hz2⟩ : ∃ z, evalS l cq (ys, (0 : Int), 0) = z := ⟨_, rfl⟩
  rw [hz1] at hK1 hB1 hadd hE1
  rw [hz2] at hK2 hB2 hadd hE2
  rw [evalS_ticks] at hadd
  have hB3 := evalS_bound l (mq - cq) (z2, a2, 0)
  have hE3 := fun (wq : World) (B2 : Option Addr) (d2 : Nat) (h1 : Nodes wq PA l) (h2 : Ints .i32 wq (.slice B2 z2.length d2) z2) => eval_c pa PA B2 pc d2 l z2 a2 ((mq - cq : Nat) : Int) hK2.2.1 (by omega) wq h1 (by rw [show z2.length = nx from hK2.1]; exact HCK.out) h2 hK2.2.2
  rw [HN.out, show z2.length = nx from hK2.1, Int.toNat_natCast] at hE3
  obtain ⟨⟨z3, a3, t3⟩, hz3⟩ : ∃ z, evalS l (mq - cq) (z2, a2, 0) = z := ⟨_, rfl⟩
  rw [hz3] at hadd hB3 hE3
  injection hadd with e1 e2
  injection e2 with e2 e3
  subst e1; subst e2; subst e3
  have HE1 := Lib.hid hE1; have HE2 := Lib.hid hE2; have HE3 := Lib.hid hE3
  have HZ1L : Hid (z1.length = nx) := hK1.1
  have HZ2L : Hid (z2.length = nx) := hK2.1
  have ha2 : 0 ≤ a2 ∧ a2 < n := by have h := hK2.2.1; rw [HN.out] at h; unfold inS at h; simp at h; exact h
  obtain ⟨ha2a, ha2b⟩ := ha2
  have ht2 : 0 ≤ t2 ∧ t2 ≤ 200 := by dsimp only at hB2; omega
  have ht3 : 0 ≤ t3 ∧ t3 ≤ 200 := by dsimp only at hB3; omega
  obtain ⟨ht2a, ht2b⟩ := ht2
  obtain ⟨ht3a, ht3b⟩ := ht3
  clear hz1 hz2 hz3 hK1 hK2 hB1 hB2 hB3 hE1 hE2 hE3 hin0
  go_wp2_with fail
  refine (HE1.out _ HN2.out HYI.out).mono ?_
  rintro e w3 ⟨v1, rfl, hr3, hb3⟩
  obtain ⟨V1, d1, rfl⟩ := own_form hr3
  have HZ1 : Hid (Ints .i32 w3 (.slice V1 z1.length d1) z1) := (Ints.own hr3).1
  have HN3 := Lib.hid (HN2.out.keep hb3)
  have HY3 := Lib.hid (HYI.out.keep hb3)
  have HP3 := Lib.hid (HP2.out.only (S := fun _ => False) (Only.of_below hb3) id)
  have HB3 := Lib.hid (HB2.out.trans (hb3.mono HB2.out.size))
  clear p0 p1 p2
  have p0 := HP3.out.cell 0
  have p1 := HP3.out.cell 1
  have p2 := HP3.out.cell 2
  simp at p0 p1 p2
  clear hr3 hb3 HN2 HYI HP2 HB2 HE1
  go_wp2_with fail
  refine (HE2.out _ HN3.out HY3.out).mono ?_
  rintro e w4 ⟨v2, rfl, hr4, hb4⟩
  obtain ⟨V2, d2, rfl⟩ := own_form hr4
  have HZ2 : Hid (Ints .i32 w4 (.slice V2 z2.length d2) z2) := (Ints.own hr4).1
  have HZ14 := Lib.hid (HZ1.out.keep hb4)
  have HN4 := Lib.hid (HN3.out.keep hb4)
  have HP4 := Lib.hid (HP3.out.only (S := fun _ => False) (Only.of_below hb4) id)
  have HB4 := Lib.hid (HB3.out.trans (hb4.mono HB3.out.size))
  clear hr4 hb4 HN3 HY3 HP3 HB3 HE2 HZ1 p0 p1 p2
  rw [HZ1L.out] at HZ14
  rw [HZ2L.out] at HZ2
  rw [HZ1L.out, HZ2L.out]
  go_wp2_with fail
  refine (known_c _).mono ?_
  rintro e w5 ⟨rfl, hb5⟩
  have HZ15 := Lib.hid (HZ14.out.keep hb5)
  have HZ25 := Lib.hid (HZ2.out.keep hb5)
  have HN5 := Lib.hid (HN4.out.keep hb5)
  have HP5 := Lib.hid (HP4.out.only (S := fun _ => False) (Only.of_below hb5) id)
  have HB5 := Lib.hid (HB4.out.trans (hb5.mono HB4.out.size))
  have p0 := HP5.out.cell 0
  have p1 := HP5.out.cell 1
  have p2 := HP5.out.cell 2
  simp at p0 p1 p2
  have hsub : (mq : Int) - (cq : Int) = ((mq - cq : Nat) : Int) := by omega
  clear hb5 HZ14 HZ2 HN4 HP4 HB4
  go_wp2_with fail
  refine (HE3.out _ V2 d2 HN5.out HZ25.out).mono ?_
  rintro e w6 ⟨v3, rfl, hr6, hb6⟩
  obtain ⟨V3, d3, rfl⟩ := own_form hr6
  have HZ6 : Hid (Ints .i32 w6 (.slice V3 z1.length d3) z1) := (Ints.own hr6).1
  have HZ16 := Lib.hid (HZ15.out.keep hb6)
  have HB6 := Lib.hid (HB5.out.trans (hb6.mono HB5.out.size))
  rw [HZ1L.out] at HZ6 ⊢
  clear hr6 hb6 HZ15 HZ25 HN5 HP5 HB5 p0 p1 p2 HE3
  go_wp2_with fail
  go_loopw [22] (fun s22 wx => ∃ (j : Nat), j ≤ nx ∧ s22 = .int .i64 j ∧ Ints .i32 wx (.slice V1 nx d1) z1 ∧ Ints .i32 wx (.slice V3 nx d3) z1 ∧ Below w.heap.size w wx) (fun i _ => nx - (intOf i).toNat)
  case atStart => exact ⟨0, Nat.zero_le _, rfl, HZ16.out, HZ6.out, HB6.out⟩
  case round =>
    obtain ⟨j, hj, rfl, hz1', hz2', hbz⟩ := hrel
    have HZ7 := Lib.hid hz1'; have HU7 := Lib.hid hz2'; have HB7 := Lib.hid hbz
    by_cases hlt : j < nx
    · obtain ⟨x, hx⟩ : ∃ x, z1[j]? = some x := ⟨_, List.getElem?_eq_getElem (by rw [HZ1L.out]; exact hlt)⟩
      have hne : z1 ≠ [] := fun e => by rw [e] at hx; cases hx
      obtain ⟨g1, o1, rfl, hc1⟩ := hz1'.cells hne
      obtain ⟨g2, o2, rfl, hc2⟩ := hz2'.cells hne
      have hx1 := hc1 j x hx
      have hx2 := hc2 j x hx
      have hji : (j : Int) < (nx : Int) := by omega
      clear hc1 hc2 hz1' hz2' hbz hx hne
      go_wp2_with fail
      go_quiet (fail)
      go_wp2_with fail
      go_roundw
      case rel => exact ⟨j + 1, by omega, by go_num, HZ7.out, HU7.out, belowN HB7.out _⟩
      case measure => simp [intOf]; omega
    · clear hz1' hz2' hbz
      go_wp2_with fail
      go_ret
      exact ⟨rfl, HB7.out⟩
theorem irParts_top (v0 v1 v2 v3 v4 : Value) (w : World) (u0 : Vw.Arg Tryd.prog w 43 v0) (u1 : Vw.Arg Tryd.prog w 3 v1) (u2 : Vw.Arg Tryd.prog w 59 v2) (u3 : Vw.Arg Tryd.prog w 3 v3) (u4 : Vw.Arg Tryd.prog w 3 v4) (hb : Bins w) :
    Calls Tryd.prog 6 #[v0, v1, v2, v3, v4] w fun e w' => e = .returned (.bool true) ∧ Below w.heap.size w w' := by
  obtain ⟨A, L, c, rfl, _, hI⟩ := arg_raws u0
  obtain ⟨r, rfl, _⟩ := Vw.Arg.int Tryd.underlying3 u1
  obtain ⟨V, vc, xs, rfl, _, hv, hR⟩ := arg_i32s u2
  obtain ⟨f, rfl, _⟩ := Vw.Arg.int Tryd.underlying3 u3
  obtain ⟨m, rfl, _⟩ := Vw.Arg.int Tryd.underlying3 u4
  exact irParts_walk A L c r V vc xs f m w hI hb hv hR
end Go.Proofs.YtilifniflpbbkaaDoor
