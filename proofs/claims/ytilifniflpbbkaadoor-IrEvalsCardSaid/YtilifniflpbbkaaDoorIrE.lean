/- The walk of IrEvals. PRINTED by genie.py. -/
import Derived.Test.YtilifniflpbbkaaDoorTm
import Derived.Test.YtilifniflpbbkaaDoorRev
import Derived.Test.YtilifniflpbbkaaDoorEvs
import Derived.Test.YtilifniflpbbkaaDoorIrC
namespace Go.Proofs.YtilifniflpbbkaaDoor
open Go.RowKit On
set_option maxHeartbeats 16000000 in
set_option maxRecDepth 100000 in
theorem irEvals_walk (A : Option Addr) (L c : Nat) (regs : Int) (V : Option Addr) (vc : Nat) (nums : List Int) (from_ most : Int) (w : World) (hx : Raws w A L) (hbins : Bins w) (hv : Ints .i32 w (.slice V nums.length vc) nums) (hR : ∀ x ∈ nums, Wd.R x) :
    Calls Tryd.prog 5 #[.slice A L c, .int .i64 regs, .slice V nums.length vc, .int .i64 from_, .int .i64 most] w fun e w' => e = .returned (.bool true) ∧ Below w.heap.size w w' := by
  obtain ⟨i0, hi0, hz0, hz1, hz2⟩ := info_parts1 info_int32
  have HTM := Lib.hid (tame_c A L c regs 0 w hx hbins)
  have HV := Lib.hid hv
  have HR := Lib.hid hR
  clear hx hbins hv hR
  obtain ⟨nl, hnl'⟩ : ∃ nl, nums.length = nl := ⟨_, rfl⟩
  have HNL := Lib.hid hnl'
  rw [hnl'] at HV ⊢
  clear hnl'
  go_enter Tryd.func5, Tryd.ntmps5
  go_wp2_with fail
  refine (HTM.out).mono ?_
  rintro e w1 ⟨pa, rg, PA, pc, l, rfl, hpg, hck, h41, hr1, hr14, hp0, hp4, hb1⟩
  obtain ⟨nx, rfl⟩ : ∃ nx : Nat, rg = nx := ⟨rg.toNat, by omega⟩
  obtain ⟨n, hn⟩ : ∃ n, l.length = n := ⟨_, rfl⟩
  have hn1 : 1 ≤ n := by have := hck.1; omega
  rw [hn] at hpg h41 ⊢
  obtain ⟨w0, hw0⟩ : ∃ w0, w0 = w1.alloc (.cells #[.int .i64 pa, .int .i64 nx, .slice PA n pc] 46) := ⟨_, rfl⟩
  obtain ⟨P, hP⟩ : ∃ P, P = w1.heap.size := ⟨_, rfl⟩
  have kp : Blk w0 P 46 #[.int .i64 pa, .int .i64 nx, .slice PA n pc] := by rw [hw0, hP]; exact Blk.new w1 _ _
  have hbw : Below w.heap.size w w0 := by rw [hw0]; exact hb1.alloc hb1.size _
  have hnod : Nodes w0 PA l := by rw [hw0]; exact (hpg.nodes' hn).keep ((Below.refl _ _).alloc (Nat.le_refl _) _)
  have HOKS : Hid (∀ x ∈ l, x.ok w1) := hpg.ok
  have HN := Lib.hid hn; have HCK := Lib.hid hck; have HP := Lib.hid kp; have HB := Lib.hid hbw; have HND := Lib.hid hnod; have HV0 := Lib.hid (HV.out.keep hbw)
  have hsz : w0.heap.size = P + 1 := by rw [hw0, hP, World.size_alloc]
  have HSZ := Lib.hid hsz
  clear hpg hck hb1 hn kp hbw hnod HTM HV hsz
  go_wp2_with fail
  rw [← hw0, ← hP]
  clear hw0 hP
  have p1 := HP.out.cell 1
  have p2 := HP.out.cell 2
  simp at p1 p2
  go_loopw [12, 13] (fun s12 s13 wx => ∃ (k : Nat) (ys : List Int) (RA : Option Addr) (rc : Nat), k ≤ nx ∧ s13 = .int .i64 k ∧ s12 = .slice RA k rc ∧ ys.length = k ∧ wx.ownsRow w0.heap.size 21 1 (.slice RA k rc) k (ys.map (Value.int .i32)) ∧ (∀ x ∈ ys, Wd.R x) ∧ Below w0.heap.size w0 wx) (fun _ i _ => nx - (intOf i).toNat)
  case atStart => exact ⟨0, [], none, 0, Nat.zero_le _, rfl, rfl, rfl, World.ownsRow_nil _ _ _ _, by simp, Below.refl _ _⟩
  case round =>
    obtain ⟨k, ys, RA, rc, hk, rfl, rfl, hyl, how, hry, hbx⟩ := hrel
    have HYL := Lib.hid hyl; have HOW := Lib.hid how; have HRY := Lib.hid hry; have HBX := Lib.hid hbx
    have HPX := Lib.hid (HP.out.only (S := fun _ => False) (Only.of_below hbx) id)
    have HVX := Lib.hid (HV0.out.keep hbx)
    clear p1 p2
    have p1 := HPX.out.cell 1
    have p2 := HPX.out.cell 2
    simp at p1 p2
    have hsw : w0.heap.size ≤ wr.heap.size := hbx.size
    clear hyl how hry hbx
    by_cases hlt : k < nx
    · by_cases hkl : k < nl
      · obtain ⟨xv, hxv⟩ : ∃ xv, nums[k]? = some xv := ⟨_, List.getElem?_eq_getElem (by rw [HNL.out]; exact hkl)⟩
        obtain ⟨gv, ov, rfl, hcvs⟩ := HVX.out.cells (fun e => by rw [e] at hxv; cases hxv)
        have hcv := hcvs k xv hxv
        have HXV : Hid (Wd.R xv) := HR.out _ (List.mem_of_getElem? hxv)
        clear hcvs hxv
        go_wp2_with (at_builtin; go_loud (refine wpList_append_at _ rfl (.tmp 41) (.tmp 43) _ rfl w0.heap.size 21 i0 _ 1 4 Tryd.underlying59 hi0 hz0 hz1 hz2 rfl (by omega) _ k (ys.map (Value.int .i32)) rfl (own_only HOW.out ((Only.refl (fun _ => False) wr).alloc _) (fun _ _ => id)) (some ⟨wr.heap.size, 0, none⟩) 1 1 _ rfl (Src.block wr 21 1 [.int .i32 xv] rfl (by simp [Value.oneCell']) (0, 0)) (by simp) (by unfold maxLen; omega) (by omega) (by simp; omega) ?_))
        intro A5 c5 w5 hown5 hg5 hn5
        have hb5 : Below w0.heap.size w0 w5 := HBX.out.trans ((((Only.refl (fun j => w0.heap.size ≤ j) wr).alloc (.cells #[.int .i32 xv] 21)).grown hg5 (fun j hj => .inl (HOW.out.lt j hj).1)).below HBX.out.size (fun j h => h))
        have HO5 : Hid (w5.ownsRow w0.heap.size 21 1 (.slice A5 (k + 1) c5) (k + 1) ((ys ++ [xv]).map (Value.int .i32))) := by show World.ownsRow _ _ _ _ _ _ _; rw [List.map_append]; exact hown5
        have HB5 := Lib.hid hb5
        clear hown5 hg5 hn5 hb5 p1
        go_wp2_with fail
        go_roundw
        case rel => exact ⟨k + 1, ys ++ [xv], A5, c5, by omega, by go_num, rfl, by simp [HYL.out], HO5.out, by
          intro x hx
          rcases List.mem_append.mp hx with h | h
          · exact HRY.out x h
          · simp at h; subst h; exact HXV.out, HB5.out⟩
        case measure => simp [intOf]; omega
      · have hkl' : ¬ ((k : Int) < (nl : Int)) := by omega
        go_wp2_with (at_builtin; go_loud (refine wpList_append_at _ rfl (.tmp 41) (.tmp 43) _ rfl w0.heap.size 21 i0 _ 1 4 Tryd.underlying59 hi0 hz0 hz1 hz2 rfl (by omega) _ k (ys.map (Value.int .i32)) rfl (own_only HOW.out ((Only.refl (fun _ => False) wr).alloc _) (fun _ _ => id)) (some ⟨wr.heap.size, 0, none⟩) 1 1 _ rfl (Src.block wr 21 1 [.int .i32 (k : Int)] rfl (by simp [Value.oneCell']) (0, 0)) (by simp) (by unfold maxLen; omega) (by omega) (by simp; omega) ?_))
        intro A5 c5 w5 hown5 hg5 hn5
        have hb5 : Below w0.heap.size w0 w5 := HBX.out.trans ((((Only.refl (fun j => w0.heap.size ≤ j) wr).alloc (.cells #[.int .i32 (k : Int)] 21)).grown hg5 (fun j hj => .inl (HOW.out.lt j hj).1)).below HBX.out.size (fun j h => h))
        have HO5 : Hid (w5.ownsRow w0.heap.size 21 1 (.slice A5 (k + 1) c5) (k + 1) ((ys ++ [(k : Int)]).map (Value.int .i32))) := by show World.ownsRow _ _ _ _ _ _ _; rw [List.map_append]; exact hown5
        have HB5 := Lib.hid hb5
        clear hown5 hg5 hn5 hb5 p1
        go_wp2_with fail
        go_roundw
        case rel => exact ⟨k + 1, ys ++ [(k : Int)], A5, c5, by omega, by go_num, rfl, by simp [HYL.out], HO5.out, by
          intro x hx
          rcases List.mem_append.mp hx with h | h
          · exact HRY.out x h
          · simp at h; subst h; unfold Wd.R; omega, HB5.out⟩
        case measure => simp [intOf]; omega
    · have hkn : k = nx := by omega
      have hyl2 : ys.length = nx := by rw [HYL.out, hkn]
      have HYI : Hid (Ints .i32 wr (.slice RA nx rc) ys) := by have := (Ints.own HOW.out).1; rw [hkn] at this; exact this
      have HYL2 := Lib.hid hyl2
      have HBW := Lib.hid (HB.out.trans (HBX.out.mono HB.out.size))
      have HNX := Lib.hid (HND.out.keep HBX.out)
      subst hkn
      have p0 := HPX.out.cell 0
      simp at p0
      clear HOW HYL hyl2 HVX hlt hk
      go_wp2_with fail
      obtain ⟨fq, hfq, hfn⟩ : ∃ fq : Nat, from_ % (n : Int) = fq ∧ fq < n := by
        have h1 := Int.emod_nonneg from_ (show (n : Int) ≠ 0 by omega)
        have h2 := Int.emod_lt_of_pos from_ (show (0 : Int) < n by omega)
        exact ⟨(from_ % (n : Int)).toNat, by omega, by omega⟩
      refine (pickN from_ n (by omega) (by omega) _).mono ?_
      rintro e w' ⟨rfl, rfl⟩
      rw [hfq]
      go_wp2_with fail
      obtain ⟨mq, hmq, hm200⟩ : ∃ mq : Nat, most % 200 = mq ∧ mq < 200 := ⟨(most % 200).toNat, by omega, by omega⟩
      refine (pickN most 200 (by decide) (by decide) _).mono ?_
      rintro e w' ⟨rfl, rfl⟩
      rw [hmq]
      clear hfq hmq
      have hEV := eval_c pa PA RA pc rc l ys fq mq (by unfold inS; rw [HN.out]; simp; omega) (by omega) wr HNX.out (by rw [HYL2.out]; exact HCK.out) (by rw [HYL2.out]; exact HYI.out) HRY.out
      rw [HN.out, HYL2.out, Int.toNat_natCast] at hEV
      have hKS := evalS_keeps HCK.out HOKS.out mq (ys, (fq : Int), 0) HYL2.out (by unfold inS; rw [HN.out]; simp; omega) HRY.out
      have hRV := fun (wq : World) (QA : Option Addr) (qc : Nat) (h1 : PNodes wq QA l) (h2 : Ints .i32 wq (.slice RA ys.length rc) ys) => reval_c pa QA RA qc rc l ys fq mq (by unfold inS; rw [HN.out]; simp; omega) (by omega) wq h1 w1 HOKS.out (by rw [HYL2.out]; exact HCK.out) h2 HRY.out
      rw [HN.out, HYL2.out, Int.toNat_natCast] at hRV
      obtain ⟨⟨zs, za, zt⟩, hz⟩ : ∃ z, evalS l mq (ys, (fq : Int), 0) = z := ⟨_, rfl⟩
      rw [hz] at hEV hKS hRV
      have HEV := Lib.hid hEV; have HRV := Lib.hid hRV; have HZL : Hid (zs.length = k) := hKS.1
      clear hz hEV hKS hRV
      go_wp2_with fail
      refine (HEV.out).mono ?_
      rintro e w2 ⟨v1, rfl, hr1', hb2⟩
      have HN2 := Lib.hid (HNX.out.keep hb2)
      have HY2 := Lib.hid (HYI.out.keep hb2)
      have HP2 := Lib.hid (HPX.out.only (S := fun _ => False) (Only.of_below hb2) id)
      have HB2 := Lib.hid (HBW.out.trans (hb2.mono HBW.out.size))
      obtain ⟨V1, d1, rfl⟩ := own_form hr1'
      have HZ1 : Hid (Ints .i32 w2 (.slice V1 zs.length d1) zs) := (Ints.own hr1').1
      clear p0 p1 p2
      have p0 := HP2.out.cell 0
      have p1 := HP2.out.cell 1
      have p2 := HP2.out.cell 2
      simp at p0 p1 p2
      clear hr1' hb2 HNX HYI HPX HBW HEV
      have hPC := plainProg_c pa k PA pc l (by rw [HN.out]; omega) w2 HN2.out
      rw [HN.out] at hPC
      have HPC := Lib.hid hPC
      clear hPC
      go_wp2_with fail
      refine (HPC.out).mono ?_
      rintro e w3 ⟨QA, qc, rfl, hpn, hb3⟩
      have HRC := Lib.hid (HRV.out w3 QA qc hpn (HY2.out.keep hb3))
      have HZ3 := Lib.hid (HZ1.out.keep hb3)
      have HB3 := Lib.hid (HB2.out.trans (hb3.mono HB2.out.size))
      clear hpn hb3 HN2 HY2 HP2 HB2 HZ1 HRV HPC p0 p1 p2
      go_wp2_with fail
      refine (HRC.out).mono ?_
      rintro e w4 ⟨v2, rfl, hr4, hb4⟩
      obtain ⟨V2, d2, rfl⟩ := own_form hr4
      have HZ4 := Lib.hid (HZ3.out.keep hb4)
      have HU4 : Hid (Ints .i32 w4 (.slice V2 zs.length d2) zs) := (Ints.own hr4).1
      have HB4 := Lib.hid (HB3.out.trans (hb4.mono HB3.out.size))
      clear hr4 hb4 HZ3 HB3 HRC
      rw [HZL.out] at HZ4 HU4 ⊢
      go_wp2_with fail
      refine (known_c _).mono ?_
      rintro e w5 ⟨rfl, hb5⟩
      have HZ5 := Lib.hid (HZ4.out.keep hb5)
      have HU5 := Lib.hid (HU4.out.keep hb5)
      have HB5 := Lib.hid (HB4.out.trans (hb5.mono HB4.out.size))
      clear hb5 HZ4 HU4 HB4
      go_wp2_with fail
      go_loopw [21] (fun s21 wx => ∃ (j : Nat), j ≤ k ∧ s21 = .int .i64 j ∧ Ints .i32 wx (.slice V1 k d1) zs ∧ Ints .i32 wx (.slice V2 k d2) zs ∧ Below w.heap.size w wx) (fun i _ => k - (intOf i).toNat)
      case atStart => exact ⟨0, Nat.zero_le _, rfl, HZ5.out, HU5.out, HB5.out⟩
      case round =>
        obtain ⟨j, hj, rfl, hz1', hz2', hbz⟩ := hrel
        have HZ6 := Lib.hid hz1'; have HU6 := Lib.hid hz2'; have HB6 := Lib.hid hbz
        by_cases hlt : j < k
        · obtain ⟨x, hx⟩ : ∃ x, zs[j]? = some x := ⟨_, List.getElem?_eq_getElem (by rw [HZL.out]; exact hlt)⟩
          have hne : zs ≠ [] := fun e => by rw [e] at hx; cases hx
          obtain ⟨g1, o1, rfl, hc1⟩ := hz1'.cells hne
          obtain ⟨g2, o2, rfl, hc2⟩ := hz2'.cells hne
          have hx1 := hc1 j x hx
          have hx2 := hc2 j x hx
          have hji : (j : Int) < (k : Int) := by omega
          clear hc1 hc2 hz1' hz2' hbz hx hne
          go_wp2_with fail
          go_quiet (fail)
          go_wp2_with fail
          go_roundw
          case rel => exact ⟨j + 1, by omega, by go_num, HZ6.out, HU6.out, belowN HB6.out _⟩
          case measure => simp [intOf]; omega
        · clear hz1' hz2' hbz
          go_wp2_with fail
          go_ret
          exact ⟨rfl, HB6.out⟩
theorem arg_i32s {w : World} {v : Value} (u : Vw.Arg Tryd.prog w 59 v) : ∃ A c xs, v = .slice A (List.length xs) c ∧ xs.length ≤ maxLen ∧ Ints .i32 w (.slice A xs.length c) xs ∧ ∀ x ∈ xs, Wd.R x := by
  have c32 : Tryd.prog.cellsOf 21 = 1 := by kernel_rfl
  rcases Vw.Arg.slice Tryd.underlying59 u with rfl | ⟨a, n, c, rfl, h1, h2, h3, h4⟩
  · exact ⟨none, 0, [], rfl, by simp, Ints.nil _ _, by simp⟩
  · obtain ⟨xs, g1, g2, g3, g4⟩ := Vw.viewed_ints Tryd.underlying21 c32 (cap := n) (fun i hi => h4 i (by omega))
    subst g1
    refine ⟨some a, c, xs, rfl, by omega, ⟨_, _, rfl, nofun, fun k x hx => ?_⟩, fun x hx => ?_⟩
    · have hk : k < xs.length := (List.getElem?_eq_some_iff.mp hx).1
      obtain ⟨b, o, s⟩ := a
      have hs := g3 (by omega); simp at hs; subst hs
      refine ⟨b, o, rfl, ?_⟩
      rw [g4 k hk, List.getD_eq_getElem?_getD, hx]
      rfl
    · exact Wd.wf_R (g2 x hx)
theorem irEvals_top (v0 v1 v2 v3 v4 : Value) (w : World) (u0 : Vw.Arg Tryd.prog w 43 v0) (u1 : Vw.Arg Tryd.prog w 3 v1) (u2 : Vw.Arg Tryd.prog w 59 v2) (u3 : Vw.Arg Tryd.prog w 3 v3) (u4 : Vw.Arg Tryd.prog w 3 v4) (hb : Bins w) :
    Calls Tryd.prog 5 #[v0, v1, v2, v3, v4] w fun e w' => e = .returned (.bool true) ∧ Below w.heap.size w w' := by
  obtain ⟨A, L, c, rfl, _, hI⟩ := arg_raws u0
  obtain ⟨r, rfl, _⟩ := Vw.Arg.int Tryd.underlying3 u1
  obtain ⟨V, vc, xs, rfl, _, hv, hR⟩ := arg_i32s u2
  obtain ⟨f, rfl, _⟩ := Vw.Arg.int Tryd.underlying3 u3
  obtain ⟨m, rfl, _⟩ := Vw.Arg.int Tryd.underlying3 u4
  exact irEvals_walk A L c r V vc xs f m w hI hb hv hR
end Go.Proofs.YtilifniflpbbkaaDoor
