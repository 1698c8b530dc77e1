/- The walk of IrChecks. -/
import Derived.Test.YtilifniflpbbkaaDoorTm
import Derived.Test.YtilifniflpbbkaaDoorView
import Derived.Deep.CutBlock
import Derived.Deep.RegionHeld3
import Derived.StillTailTactics
import Derived.BigQuiet
import Derived.Deep.QuietTactic
import Derived.BigGuardPart
namespace Go.Proofs.YtilifniflpbbkaaDoor
open Go.RowKit On
theorem Pg.nodes' {K : Nat → Prop} {w : World} {A : Option Addr} {c n : Nat} {l : List Nd} (h : Pg K w (.slice A n c) l) (hl : l.length = n) : Nodes w A l := by
  subst hl; exact h.nodes
theorem Tells.same {P : Prop} {b bb : Bool} (h : b = true ↔ P) (hb : bb = true ↔ P) : b = bb := by
  cases b <;> cases bb <;> simp_all
/-- how many a slice in memory holds -/
def lenAt (w : World) (p : Addr) : Nat := match w.cell? p with
  | some (.slice _ n _) => n
  | _ => 0
/-- a program lies in the variable -/
def ProgIn (P : Nat) (w wx : World) : Prop :=
  ∃ (pa rg : Int) (A : Option Addr) (c n : Nat) (l : List Nd), l.length = n ∧ Blk wx P 46 #[.int .i64 pa, .int .i64 rg, .slice A n c] ∧ Nodes wx A l ∧ n ≤ 300 ∧ Below w.heap.size w wx
set_option maxHeartbeats 16000000 in
set_option maxRecDepth 100000 in
theorem irChecks_walk (A : Option Addr) (L c : Nat) (regs params how : Int) (w : World) (hx : Raws w A L) (hbins : Bins w) :
    Calls Tryd.prog 4 #[.slice A L c, .int .i64 regs, .int .i64 params, .int .i64 how] w fun e w' => e = .returned (.bool true) ∧ Below w.heap.size w w' := by
  obtain ⟨i0, hi0, hz0, hz1, hz2⟩ := info_parts1 info_node
  have HPC := Lib.hid (prog_c A L c regs params w hx hbins)
  have HX := Lib.hid hx
  have HBI := Lib.hid hbins
  clear hx hbins
  go_enter Tryd.func4, Tryd.ntmps4
  go_wp2_with fail
  refine (HPC.out).mono ?_
  rintro e w1 ⟨pa, rg, PA, pc, l0, rfl, hpg, h40, hr1, hr14, hp0, hp4, hpr, hb1⟩
  have hln : (l0 ++ [Nd.ret (-1)]).length = l0.length + 1 := by simp
  rw [hln] at hpg ⊢
  obtain ⟨R0, hR0⟩ : ∃ R0, R0 = l0 ++ [Nd.ret (-1)] := ⟨_, rfl⟩
  rw [← hR0] at hpg hln
  obtain ⟨n, hn⟩ : ∃ n, n = l0.length + 1 := ⟨_, rfl⟩
  rw [← hn] at hpg hln ⊢
  have hn1 : 1 ≤ n := by omega
  have hn41 : n ≤ 41 := by omega
  clear hR0 hn h40
  obtain ⟨w0, hw0⟩ : ∃ w0, w0 = w1.alloc (.cells #[.int .i64 pa, .int .i64 rg, .slice PA n pc] 46) := ⟨_, rfl⟩
  have hs1 : w.heap.size ≤ w1.heap.size := hb1.size
  have hpg0 : Pg (fun k => w.heap.size ≤ k ∧ k ≠ w1.heap.size) w0 (.slice PA n pc) R0 := by
    rw [hw0]; exact (hpg.shift (fun k hk h => ⟨h, by omega⟩)).keep ((Below.refl _ _).alloc (Nat.le_refl _) _)
  have kp : Blk w0 w1.heap.size 46 #[.int .i64 pa, .int .i64 rg, .slice PA n pc] := by rw [hw0]; exact Blk.new w1 _ _
  have hbw : Below w.heap.size w w0 := by rw [hw0]; exact hb1.alloc (by omega) _
  have HLN := Lib.hid hln; have HPG := Lib.hid hpg0; have HP := Lib.hid kp; have HB := Lib.hid hbw
  clear hpg hpg0 kp hbw hln hb1 HPC
  go_wp2_with fail
  rw [← hw0]
  clear hw0
  generalize w1.heap.size = P at *
  refine (pickN how 12 (by decide) (by decide) _).mono ?_
  rintro e w' ⟨rfl, rfl⟩
  obtain ⟨h, hh⟩ : ∃ h, how % 12 = h := ⟨_, rfl⟩
  have hh0 : 0 ≤ h := by omega
  have hh1 : h < 12 := by omega
  rw [hh]
  clear hh
  have p0 := HP.out.cell 0
  have p1 := HP.out.cell 1
  have p2 := HP.out.cell 2
  have f0 := HP.out.frozen 0
  have f1 := HP.out.frozen 1
  have f2 := HP.out.frozen 2
  simp at p0 p1 p2
  have hPl0 := HP.out.lt
  go_upto_block 0 with (fail)
  go_cut [] (fun wx => ProgIn P w wx)
  case first =>
    have hcase : h = 0 ∨ h = 1 ∨ h = 2 ∨ h = 3 ∨ h = 4 ∨ (h = 5 ∨ h = 6 ∨ h = 7 ∨ h = 8) ∨ (h = 9 ∨ h = 10 ∨ h = 11) := by omega
    clear hh0 hh1
    generalize hqq : wrap64 (how.tdiv 12) = hq
    rcases hcase with rfl | rfl | rfl | rfl | rfl | hc | hc
    · go_wp2_with fail
      rw [hqq]
      refine (pickN hq 8 (by decide) (by decide) _).mono ?_
      rintro e w' ⟨rfl, rfl⟩
      have hq8 : 0 ≤ hq % 8 ∧ hq % 8 < 8 := by omega
      generalize hq % 8 = q at *
      obtain ⟨hq8a, hq8b⟩ := hq8
      go_wp2_with fail
      go_meet
      exact ⟨_, rg, PA, pc, n, R0, HLN.out, HP.out.set 0 _, (HPG.out.far (p := ⟨P, 0, none⟩) (fun h => h.2 rfl) _).nodes' HLN.out, by omega, HB.out.setCell (p := ⟨P, 0, none⟩) hs1 _⟩
    · go_wp2_with fail
      rw [hqq]
      refine (pickN hq 44 (by decide) (by decide) _).mono ?_
      rintro e w' ⟨rfl, rfl⟩
      have hq8 : 0 ≤ hq % 44 ∧ hq % 44 < 44 := by omega
      generalize hq % 44 = q at *
      obtain ⟨hq8a, hq8b⟩ := hq8
      go_wp2_with fail
      go_meet
      exact ⟨pa, _, PA, pc, n, R0, HLN.out, HP.out.set 1 _, (HPG.out.far (p := ⟨P, 1, none⟩) (fun h => h.2 rfl) _).nodes' HLN.out, by omega, HB.out.setCell (p := ⟨P, 1, none⟩) hs1 _⟩
    · have hown := HPG.out.own
      rw [HLN.out] at hown
      have HOWN := Lib.hid hown
      clear hown
      go_wp2_with (at_builtin; go_loud (refine wpList_append_at _ rfl (.tmp 33) (.tmp 36) _ rfl 0 26 i0 _ 1 16 Tryd.underlying44 hi0 hz0 hz1 hz2 rfl (by omega) _ n (R0.map Nd.val) rfl (own_only HOWN.out ((Only.refl (fun _ => False) w0).alloc _) (fun _ _ => id)) (some ⟨w0.heap.size, 0, none⟩) 1 1 _ rfl (Src.block w0 26 1 [Nd.tick.val] rfl (by intro u hu; simp at hu; subst hu; exact Nd.val_one _) (0, 0)) nofun (by unfold maxLen; omega) (by omega) (Nat.zero_le _) ?_))
      intro A5 c5 w5 hown5 hg5 hat5
      have hO5 := ((Only.refl (fun j => w.heap.size ≤ j ∧ j ≠ P) w0).alloc (.cells #[Nd.tick.val] 26)).grown hg5 (fun j hj => .inl (HPG.out.inK j hj))
      have hpush := Pg.push HPG.out HLN.out ((Only.refl (fun _ => False) w0).alloc (.cells #[Nd.tick.val] 26)) Nd.tick True.intro (fun hne => absurd rfl hne) hown5 hg5 (by first | exact hat5 | (rw [World.size_alloc]; exact hat5)) ⟨by simp; omega, by simp; omega⟩
      have kp5 := HP.out.only hO5 (fun h => h.2 rfl)
      have hb5 : Below w.heap.size w w5 := HB.out.trans (hO5.below HB.out.size (fun j hj => hj.1))
      have q2 := kp5.cell 2
      have e2 := kp5.frozen 2
      simp at q2
      have HPU := Lib.hid hpush; have HKP := Lib.hid kp5; have HB5 := Lib.hid hb5
      clear hpush kp5 hb5 hO5 hown5 hg5 hat5 HOWN p0 p1 p2 f0 f1 f2
      go_wp2_with fail
      go_meet
      exact ⟨pa, rg, A5, c5, n + 1, R0 ++ [.tick], by simp [HLN.out], HKP.out.set 2 _, (HPU.out.far (p := ⟨P, 2, none⟩) (fun h => h.2 rfl) _).nodes' (by simp [HLN.out]), by omega, HB5.out.setCell (p := ⟨P, 2, none⟩) hs1 _⟩
    · clear hqq
      obtain ⟨g, rfl, hKg⟩ := HPG.out.head HLN.out hn1
      obtain ⟨j, hj, hjn⟩ : ∃ j : Nat, IntKind.i64.wrap (how.tdiv 12) % (n : Int) = j ∧ j < n := by
        have h1 := Int.emod_nonneg (IntKind.i64.wrap (how.tdiv 12)) (show (n : Int) ≠ 0 by omega)
        have h2 := Int.emod_lt_of_pos (IntKind.i64.wrap (how.tdiv 12)) (show (0 : Int) < n by omega)
        generalize IntKind.i64.wrap (how.tdiv 12) % (n : Int) = z at *
        exact ⟨z.toNat, by omega, by omega⟩
      have q1 : ∀ w, Calls Tryd.prog 8 #[.int .i64 (IntKind.i64.wrap (how.tdiv 12)), .int .i64 n] w fun e w' => e = .returned (.int .i64 j) ∧ w' = w := fun w => (pickN _ n (by omega) (by omega) w).mono fun _ _ h => ⟨by rw [h.1, hj], h.2.symm⟩
      clear hj
      have HPD : Hid (Pg (fun k => w.heap.size ≤ k ∧ k ≠ P) w0.drew (.slice (some ⟨g, 0, none⟩) n pc) R0) := HPG.out.keep ((Below.refl _ _).drewn)
      obtain ⟨cj, fj, hgl⟩ := HPD.out.at_ HLN.out (List.getElem?_eq_getElem (by rw [HLN.out]; exact hjn))
      generalize (R0[j]'(by rw [HLN.out]; exact hjn)).val = vj at *
      go_wp2_with fail
      go_still_tail 8, (by kernel_rfl)
      still_call (q1 _)
      refine wpStill_nil ?_
      change wpList _ _ _ _ _ w0.drew
      obtain ⟨wd, hwd⟩ : ∃ wd, wd = w0.drew := ⟨_, rfl⟩
      rw [← hwd] at cj fj hgl HPD ⊢
      have HPP : Hid (Blk wd P 46 #[.int .i64 pa, .int .i64 rg, .slice (some ⟨g, 0, none⟩) n pc]) := by rw [hwd]; exact HP.out
      have HBD : Hid (Below w.heap.size w wd) := by rw [hwd]; exact HB.out.drewn
      clear hwd p0 p1 p2 f0 f1 f2
      go_wp2_with fail
      go_meet
      exact ⟨pa, rg, some ⟨g, 0, none⟩, pc, n, R0.set j .none, by simp [HLN.out], HPP.out.far (p := ⟨g, j, none⟩) (fun e => hKg.2 e.symm) _, (HPD.out.put' HLN.out j .none True.intro (fun hne => absurd rfl hne)).nodes' (by simp [HLN.out]), by omega, HBD.out.setCell (p := ⟨g, j, none⟩) hKg.1 _⟩
    · obtain ⟨q, hqn, hq12⟩ : ∃ q : Nat, hq % 12 = q ∧ q < 12 := ⟨(hq % 12).toNat, by omega, by omega⟩
      have z0 : ∀ (W : World) m, Calls Tryd.prog 8 #[.int .i64 hq, .int .i64 12] (W.drewN m) fun e w' => e = .returned (.int .i64 q) ∧ w' = W.drewN m := fun W m => (pickN hq 12 (by decide) (by decide) (W.drewN m)).mono fun _ _ h => ⟨by rw [h.1, hqn], h.2.symm⟩
      rw [← hqq] at z0
      have HZ := Lib.hid z0
      clear z0 hqn hqq
      go_wp2_with fail
      go_loopw [] (fun wx => ∃ (R : List Nd) (RA : Option Addr) (rc m : Nat), R.length = m ∧ m ≤ 256 ∧ Pg (fun j => w.heap.size ≤ j ∧ j ≠ P) wx (.slice RA m rc) R ∧ Blk wx P 46 #[.int .i64 pa, .int .i64 rg, .slice RA m rc] ∧ Below w.heap.size w wx) (fun wx => 300 - lenAt wx ⟨P, 2, none⟩)
      case atStart => exact ⟨R0, PA, pc, n, HLN.out, by omega, HPG.out, HP.out, HB.out⟩
      case round =>
        obtain ⟨R, RA, rc, m, hRl, hm, hpg, hp, hb⟩ := hrel
        have HRL := Lib.hid hRl; have HPX := Lib.hid hpg; have HPP := Lib.hid hp; have HBX := Lib.hid hb
        have p2 := hp.cell 2
        simp at p2
        have z0 := HZ.out wr
        clear hRl hpg hp hb f0 f1 f2
        have HML : Hid (lenAt wr ⟨P, 2, none⟩ = m) := by show _ = _; unfold lenAt; rw [p2]
        by_cases hlt : (m : Int) < 245 + (q : Int)
        · go_wp2_with fail
          go_quiet (first | (go_at_call 8; with_reducible exact Calls.quiet_of_same (z0 _)))
          obtain ⟨wd, hwd⟩ : ∃ wd, wd = wr.drewN nq := ⟨_, rfl⟩
          have hbd : Below wr.heap.size wr wd := by rw [hwd]; exact belowN (Below.refl _ _) _
          have HPD := Lib.hid (HPX.out.keep hbd)
          have HPE := Lib.hid (HPP.out.only (S := fun _ => False) (Only.of_below hbd) id)
          have HBD := Lib.hid (HBX.out.trans (hbd.mono HBX.out.size))
          rw [← hwd]
          clear hwd hbd z0 HPX HPP HBX p2
          have p2 := HPE.out.cell 2
          simp at p2
          have hown := HPD.out.own
          rw [HRL.out] at hown
          have HOWN := Lib.hid hown
          clear hown
          go_wp2_with (at_builtin; go_loud (refine wpList_append_at _ rfl (.tmp 61) (.tmp 64) _ rfl 0 26 i0 _ 1 16 Tryd.underlying44 hi0 hz0 hz1 hz2 rfl (by omega) _ m (R.map Nd.val) rfl (own_only HOWN.out ((Only.refl (fun _ => False) wd).alloc _) (fun _ _ => id)) (some ⟨wd.heap.size, 0, none⟩) 1 1 _ rfl (Src.block wd 26 1 [(Nd.ret (-1)).val] rfl (by intro u hu; simp at hu; subst hu; exact Nd.val_one _) (0, 0)) nofun (by unfold maxLen; omega) (by omega) (Nat.zero_le _) ?_))
          intro A5 c5 w5 hown5 hg5 hat5
          have hO5 := ((Only.refl (fun j => w.heap.size ≤ j ∧ j ≠ P) wd).alloc (.cells #[(Nd.ret (-1)).val] 26)).grown hg5 (fun j hj => .inl (HPD.out.inK j hj))
          have hsw : w.heap.size ≤ wd.heap.size := HBD.out.size
          have hPw : P < wd.heap.size := HPE.out.lt
          have hpush := Pg.push HPD.out HRL.out ((Only.refl (fun _ => False) wd).alloc (.cells #[(Nd.ret (-1)).val] 26)) (Nd.ret (-1)) True.intro (fun hne => absurd rfl hne) hown5 hg5 (by first | exact hat5 | (rw [World.size_alloc]; exact hat5)) ⟨by simp; omega, by simp; omega⟩
          have kp5 := HPE.out.only hO5 (fun h => h.2 rfl)
          have hb5 : Below w.heap.size w w5 := HBD.out.trans (hO5.below HBD.out.size (fun j hj => hj.1))
          have q2 := kp5.cell 2
          have e2 := kp5.frozen 2
          simp at q2
          have hnl : lenAt (w5.setCell ⟨P, 2, none⟩ (.slice A5 (m + 1) c5)) ⟨P, 2, none⟩ = m + 1 := by
            have hc := (kp5.set 2 (.slice A5 (m + 1) c5)).cell 2
            simp at hc
            unfold lenAt; rw [hc]
          have HNL := Lib.hid hnl
          have HPU := Lib.hid hpush; have HKP := Lib.hid kp5; have HB5 := Lib.hid hb5
          clear hnl hpush kp5 hb5 hO5 hown5 hg5 hat5 HOWN p0 p1 p2
          go_wp2_with fail
          go_roundw
          case rel => exact ⟨R ++ [.ret (-1)], A5, c5, m + 1, by simp [HRL.out], by omega, HPU.out.far (p := ⟨P, 2, none⟩) (fun h => h.2 rfl) _, HKP.out.set 2 _, HB5.out.setCell (p := ⟨P, 2, none⟩) hs1 _⟩
          case measure =>
            show 300 - lenAt _ _ < 300 - lenAt _ _
            rw [HNL.out, HML.out]
            omega
        · go_wp2_with fail
          go_quiet (first | (go_at_call 8; with_reducible exact Calls.quiet_of_same (z0 _)))
          go_wp2_with fail
          go_meet
          exact ⟨pa, rg, RA, rc, m, R, HRL.out, HPP.out, HPX.out.nodes' HRL.out, by omega, belowN HBX.out _⟩
    · clear hqq
      have HTM := Lib.hid (tame_c A L c regs params w0 (HX.out.keep (HB.out)) (HBI.out.keep HB.out))
      rcases hc with rfl | rfl | rfl | rfl
      all_goals
        go_wp2_with fail
        refine (HTM.out).mono ?_
        rintro e w3 ⟨pa3, rg3, A3, c3, l3, rfl, hpg3, _, h41, _, _, _, _, hb3⟩
        have kp3 := HP.out.only (S := fun _ => False) (Only.of_below hb3) id
        have g0 := kp3.cell 0
        have g1 := kp3.cell 1
        have g2 := kp3.cell 2
        have e0 := kp3.frozen 0
        have e1 := kp3.frozen 1
        have e2 := kp3.frozen 2
        simp at g0 g1 g2
        have HKP := Lib.hid kp3; have HP3 := Lib.hid hpg3; have HB3 := Lib.hid (HB.out.trans (hb3.mono HB.out.size))
        have hnk : ¬ w0.heap.size ≤ P := by omega
        obtain ⟨m, hm⟩ : ∃ m, l3.length = m := ⟨_, rfl⟩
        rw [hm] at h41 HP3 ⊢
        have HM := Lib.hid hm
        clear hm kp3 hpg3 hb3
        go_wp2_with fail
        go_meet
        exact ⟨pa3, rg3, A3, c3, m, l3, HM.out, ((HKP.out.set 0 _).set 1 _).set 2 _, (((HP3.out.far (p := ⟨P, 0, none⟩) hnk _).far (p := ⟨P, 1, none⟩) hnk _).far (p := ⟨P, 2, none⟩) hnk _).nodes' HM.out, by omega,
          ((HB3.out.setCell (p := ⟨P, 0, none⟩) hs1 _).setCell (p := ⟨P, 1, none⟩) hs1 _).setCell (p := ⟨P, 2, none⟩) hs1 _⟩
    · have e : ∀ j : Int, j < 9 → (h == j) = false := fun j hj => by simp; omega
      have e0 := e 0 (by decide); have e1 := e 1 (by decide); have e2 := e 2 (by decide); have e3 := e 3 (by decide); have e4 := e 4 (by decide); have e5 := e 5 (by decide); have e6 := e 6 (by decide); have e7 := e 7 (by decide); have e8 := e 8 (by decide)
      clear e hc
      go_wp2_with fail
      go_meet
      exact ⟨pa, rg, PA, pc, n, R0, HLN.out, HP.out, HPG.out.nodes' HLN.out, by omega, HB.out⟩
  case rest =>
  obtain ⟨qa, qg, QA, qc, m, l, hlm, hp, hl, h300, hbc⟩ := hcut
  obtain ⟨bb, hbb⟩ : ∃ bb : Bool, (bb = true ↔ CheckP qa qg l) := by
    by_cases hp : CheckP qa qg l
    · exact ⟨true, by simp [hp]⟩
    · exact ⟨false, by simp [hp]⟩
  have HL := Lib.hid hl
  have hS : Hid (∀ w', Below wc.heap.size wc w' → w'.cell? ⟨P, 0, none⟩ = some (.int .i64 qa) ∧ w'.cell? ⟨P, 1, none⟩ = some (.int .i64 qg) ∧ w'.cell? ⟨P, 2, none⟩ = some (.slice QA m qc)) := fun w' h => by
    have k := hp.only (S := fun _ => False) (Only.of_below h) id
    exact ⟨k.cell 0, k.cell 1, k.cell 2⟩
  have b0 : Below wc.heap.size wc wc := Below.refl _ _
  have k00 := hS.out wc b0
  have l00 := hS.out wc.drew b0.drewn
  have hK : Hid (∀ wq, Below wc.heap.size wc wq → Calls Tryd.prog 10 #[] wq fun e w' => e = .returned (.bool true) ∧ Below wc.heap.size wc w') := fun wq h => (known_c wq).mono fun e w' g => ⟨g.1, h.trans (g.2.mono h.size)⟩
  have hC : Hid (∀ wq, Below wc.heap.size wc wq → Calls Tryd.prog 22 #[.agg #[.int .i64 qa, .int .i64 qg, .slice QA m qc]] wq fun e w' => e = .returned (.bool bb) ∧ Below wc.heap.size wc w') := fun wq h => by
    have := check_c qa qg QA qc l wq (HL.out.keep h)
    rw [hlm] at this
    exact this.mono fun e w' ⟨b, g1, g2, g3⟩ => ⟨by rw [g1, Tells.same g2 hbb], h.trans (g3.mono h.size)⟩
  have hPl : Hid (∀ wq, Below wc.heap.size wc wq → Calls Tryd.prog 24 #[.agg #[.int .i64 qa, .int .i64 qg, .slice QA m qc]] wq fun e w' => ∃ RA rc, e = .returned (.agg #[.int .i64 qa, .int .i64 qg, .slice RA m rc]) ∧ PNodes w' RA l ∧ Below wc.heap.size wc w') := fun wq h => by
    have := plainProg_c qa qg QA qc l (by omega) wq (HL.out.keep h)
    rw [hlm] at this
    exact this.mono fun e w' ⟨RA, rc, g1, g2, g3⟩ => ⟨RA, rc, g1, g2, h.trans (g3.mono h.size)⟩
  have hR : Hid (∀ wq RA rc, Below wc.heap.size wc wq → PNodes wq RA l → Calls Tryd.prog 23 #[.agg #[.int .i64 qa, .int .i64 qg, .slice RA m rc]] wq fun e w' => e = .returned (.bool bb) ∧ Below wc.heap.size wc w') := fun wq RA rc h hn => by
    have := refCheck_c qa qg RA rc l wq hn
    rw [hlm] at this
    exact this.mono fun e w' ⟨b, g1, g2, g3⟩ => ⟨by rw [g1, Tells.same g2 hbb], h.trans (g3.mono h.size)⟩
  have HBC := Lib.hid hbc
  clear hp hl hbb hlm hbc p0 p1 p2 f0 f1 f2 hPl0 HX HBI HPG HP HB
  go_wp2_with fail
  go_region_held3 (fun w' => w'.cell? ⟨P, 0, none⟩ = some (.int .i64 qa) ∧ w'.cell? ⟨P, 1, none⟩ = some (.int .i64 qg) ∧ w'.cell? ⟨P, 2, none⟩ = some (.slice QA m qc)) (first | with_reducible exact k00 | with_reducible exact l00 | with_reducible exact k1' | with_reducible exact l1' | with_reducible exact k2' | with_reducible exact l2' | with_reducible exact k3' | with_reducible exact l3' | with_reducible exact k4' | with_reducible exact l4')
    (first | (go_at_call 10; refine (hK.out _ (by first | with_reducible exact b0 | with_reducible exact b0.drewn)).mono ?_; rintro e w1 ⟨rfl, b1⟩; have k1' := hS.out _ b1; have l1' := hS.out _ b1.drewn) | (go_at_call 22; refine (hC.out _ (by first | with_reducible exact b1 | with_reducible exact b1.drewn)).mono ?_; rintro e w2 ⟨rfl, b2⟩; have k2' := hS.out _ b2; have l2' := hS.out _ b2.drewn) | (go_at_call 24; refine (hPl.out _ (by first | with_reducible exact b2 | with_reducible exact b2.drewn)).mono ?_; rintro e w3 ⟨RA, rc, rfl, i3, b3⟩; have k3' := hS.out _ b3; have l3' := hS.out _ b3.drewn) | (go_at_call 23; refine (hR.out _ RA rc (by first | with_reducible exact b3 | with_reducible exact b3.drewn) (by first | with_reducible exact i3 | exact i3)).mono ?_; rintro e w4 ⟨rfl, b4⟩; have k4' := hS.out _ b4; have l4' := hS.out _ b4.drewn))
  go_wp2_with fail
  go_ret
  exact ⟨by simp, HBC.out.trans ((by first | exact b4 | exact b4.drewn : Below wc.heap.size wc _).mono HBC.out.size)⟩
theorem irChecks_top (v0 v1 v2 v3 : Value) (w : World) (u0 : Vw.Arg Tryd.prog w 43 v0) (u1 : Vw.Arg Tryd.prog w 3 v1) (u2 : Vw.Arg Tryd.prog w 3 v2) (u3 : Vw.Arg Tryd.prog w 3 v3) (hb : Bins w) :
    Calls Tryd.prog 4 #[v0, v1, v2, v3] w fun e w' => e = .returned (.bool true) ∧ Below w.heap.size w w' := by
  obtain ⟨A, L, c, rfl, _, hI⟩ := arg_raws u0
  obtain ⟨r, rfl, _⟩ := Vw.Arg.int Tryd.underlying3 u1
  obtain ⟨p, rfl, _⟩ := Vw.Arg.int Tryd.underlying3 u2
  obtain ⟨h, rfl, _⟩ := Vw.Arg.int Tryd.underlying3 u3
  exact irChecks_walk A L c r p h w hI hb
end Go.Proofs.YtilifniflpbbkaaDoor
