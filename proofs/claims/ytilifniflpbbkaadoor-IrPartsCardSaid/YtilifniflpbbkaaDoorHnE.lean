/- hand.Node: of any raw node some node. Bin, Choose, PutField. -/
import Derived.Test.YtilifniflpbbkaaDoorHn
import Derived.Deep.RegionHeld3
import Derived.Deep.QuietTactic
import Derived.BigQuiet
import Derived.Deep.DeepCutAuto
import Derived.Deep.CutBlock
import Derived.BigGuardPart
namespace Go.Proofs.YtilifniflpbbkaaDoor
open Go.RowKit On
set_option maxHeartbeats 16000000 in
set_option maxRecDepth 100000 in
theorem hnode_f (x0 x1 x2 x3 x4 x5 x6 x7 : Int) (XA : Option Addr) (xc : Nat) (xs : List Int) (regs nodes : Int) (hr : regs ≤ 1000000) (hn1 : 1 ≤ nodes) (hn : nodes ≤ 1000000) (w : World) (hx : Ints .i64 w (.slice XA xs.length xc) xs) (hbins : Bins w) (hy : x0 % 18 = 5 ∨ x0 % 18 = 7 ∨ x0 % 18 = 14) :
    Calls Tryd.prog 7 #[.agg #[.int .i64 x0, .int .i64 x1, .int .i64 x2, .int .i64 x3, .int .i64 x4, .int .i64 x5, .int .i64 x6, .int .i64 x7, .slice XA xs.length xc], .int .i64 regs, .int .i64 nodes] w (NodeAt w) := by
  have hmf : ∀ (fn : Fn) (first cap : Array Value) (w : World), (Instr.makeFunc fn first cap).run Tryd.prog w = .ok (.func fn first cap) w := fun _ _ _ _ => rfl
  obtain ⟨i0, hi0, hz0, hz1, hz2⟩ := info_parts1 info_int
  have HX := Lib.hid hx
  have HBI := Lib.hid hbins
  have HR := Lib.hid hr
  have hmax : (if nodes > 1 then nodes else 1) = nodes := by split <;> omega
  have HN1 := Lib.hid hn1
  clear hn1
  have HBX : Hid (Boxes w.heap.size #[.int .i64 x0, .int .i64 x1, .int .i64 x2, .int .i64 x3, .int .i64 x4, .int .i64 x5, .int .i64 x6, .int .i64 x7, .slice XA xs.length xc] regs w ((w.alloc (.cells #[.int .i64 x0, .int .i64 x1, .int .i64 x2, .int .i64 x3, .int .i64 x4, .int .i64 x5, .int .i64 x6, .int .i64 x7, .slice XA xs.length xc] 24)).alloc (.cells #[.int .i64 regs] 3))) := by
    refine ⟨?_, ?_, ?_⟩
    · exact (Blk.new w _ _).alloc _
    · have := Blk.new (w.alloc (.cells #[.int .i64 x0, .int .i64 x1, .int .i64 x2, .int .i64 x3, .int .i64 x4, .int .i64 x5, .int .i64 x6, .int .i64 x7, .slice XA xs.length xc] 24)) 3 #[.int .i64 regs]
      rw [show (w.alloc (.cells #[.int .i64 x0, .int .i64 x1, .int .i64 x2, .int .i64 x3, .int .i64 x4, .int .i64 x5, .int .i64 x6, .int .i64 x7, .slice XA xs.length xc] 24)).heap.size = w.heap.size + 1 by simp] at this
      exact this
    · exact ((Below.refl _ _).alloc (Nat.le_refl _) _).alloc (by simp) _
  unfold NodeAt
  clear hx hbins hr
  have HY := Lib.hid hy
  clear hy
  go_enter Tryd.func7, Tryd.ntmps7
  go_wp2_with fail
  refine (pickN x7 nodes (by have := HN1.out; omega) (by omega) _).mono ?_
  rintro e w' ⟨rfl, rfl⟩
  obtain ⟨wa, hwa⟩ : ∃ wa, wa = ((w.alloc (.cells #[.int .i64 x0, .int .i64 x1, .int .i64 x2, .int .i64 x3, .int .i64 x4, .int .i64 x5, .int .i64 x6, .int .i64 x7, .slice XA xs.length xc] 24)).alloc (.cells #[.int .i64 regs] 3)) := ⟨_, rfl⟩
  rw [← hwa] at HBX ⊢
  clear hwa
  have r7 := HBX.out.r.cell 7
  simp at r7
  go_upto_if 30 with (fail)
  go_cut [8] (fun s wx => ∃ t, s = .int .i64 t ∧ wx = wa)
  case first =>
    go_wp2_with fail
    all_goals go_meet
    all_goals exact ⟨_, rfl, rfl⟩
  case rest =>
  obtain ⟨t, rfl, rfl⟩ := hcut
  clear r7
  go_upto_block 0 with (fail)
  go_cut [9] (fun s wx => ∃ (ys : List Int) (YA : Option Addr) (yc : Nat), s = .slice YA ys.length yc ∧ ys.length ≤ 6 ∧ OwnI (w.heap.size + 2) wx (.slice YA ys.length yc) ys ∧ Boxes w.heap.size #[.int .i64 x0, .int .i64 x1, .int .i64 x2, .int .i64 x3, .int .i64 x4, .int .i64 x5, .int .i64 x6, .int .i64 x7, .slice XA xs.length xc] regs w wx)
  case first =>
    go_wp2_with fail
    go_loopw [9, 10] (fun s i wx => ∃ (k : Nat) (ys : List Int) (YA : Option Addr) (yc : Nat), k ≤ xs.length ∧ k ≤ 6 ∧ ys.length = k ∧ i = .int .i64 k ∧ s = .slice YA ys.length yc ∧ OwnI (w.heap.size + 2) wx (.slice YA ys.length yc) ys ∧ Boxes w.heap.size #[.int .i64 x0, .int .i64 x1, .int .i64 x2, .int .i64 x3, .int .i64 x4, .int .i64 x5, .int .i64 x6, .int .i64 x7, .slice XA xs.length xc] regs w wx) (fun _ i _ => 6 - (intOf i).toNat)
    case atStart => exact ⟨0, [], none, 0, Nat.zero_le _, Nat.zero_le _, rfl, rfl, rfl, World.ownsRow_nil _ _ _ _, HBX.out⟩
    case round =>
      obtain ⟨k, ys, YA, yc, hk, hk6, hyl, rfl, rfl, hown, hbx⟩ := hrel
      have HOWN := Lib.hid hown; have HBX2 := Lib.hid hbx; have HYL := Lib.hid hyl
      clear HBX hown hyl
      have r8 := hbx.r.cell 8
      have rg := hbx.g.cell 0
      simp at r8 rg
      by_cases hlt : k < xs.length
      · by_cases h6 : (k : Int) < 6
        · obtain ⟨A', c', e, _, hxc⟩ := HX.out.keep hbx.b
          injection e with e1 _ e3
          subst e1; subst e3
          obtain ⟨g, o, rfl, hck⟩ := hxc k _ (List.getElem?_eq_getElem hlt)
          generalize xs[k]'hlt = x at *
          clear hxc hbx
          go_wp2_with fail
          refine (reg_c x regs _ _ HR.out rg).mono ?_
          rintro e w' ⟨rfl, rfl⟩
          generalize regS x regs = rx at *
          have hsz : w.heap.size + 2 ≤ wr.heap.size := by have := HBX2.out.g.lt; omega
          go_wp2_with (at_builtin; go_loud (refine wpList_append_at _ rfl (.tmp 43) (.tmp 51) _ rfl (w.heap.size + 2) 3 i0 _ 1 8 Tryd.underlying22 hi0 hz0 hz1 hz2 rfl (by omega) _ ys.length _ rfl (own_only HOWN.out ((Only.refl (fun _ => False) wr).alloc _) (fun _ _ => id)) (some ⟨wr.heap.size, 0, none⟩) 1 1 _ rfl (Src.block wr 3 1 [.int .i64 rx] rfl (by simp [Value.oneCell']) (0, 0)) (by simp) (by have := HYL.out; unfold maxLen; omega) (by have := HYL.out; omega) (by simp; omega) ?_))
          intro A5 n5 w5 hown5 hg5 hn5
          obtain ⟨ho6, hl6⟩ := OwnI.snoc hown5
          have hO6 := ((Only.refl (fun k => w.heap.size + 2 ≤ k) wr).alloc (.cells #[.int .i64 rx] 3)).grown hg5 (fun j hj => .inl (HOWN.out.base j hj))
          have HBX6 := Lib.hid (HBX2.out.keep hO6)
          rw [hl6] at ho6
          have HO6 := Lib.hid ho6
          have HL6 := Lib.hid hl6
          clear hown5 hg5 hn5 ho6 hl6 hO6 hck r8 rg
          go_wp2_with fail
          go_roundw
          case rel => exact ⟨k + 1, ys ++ [rx], A5, n5, by omega, by omega, by have := HYL.out; rw [← HL6.out]; omega, by go_num, by rw [HL6.out], HO6.out, HBX6.out⟩
          case measure => simp [intOf]; omega
        · go_wp2_with fail
          go_meet
          exact ⟨ys, YA, yc, rfl, by have := HYL.out; omega, HOWN.out, HBX2.out⟩
      · go_wp2_with fail
        go_meet
        exact ⟨ys, YA, yc, rfl, by have := HYL.out; omega, HOWN.out, HBX2.out⟩
  case rest =>
  obtain ⟨ys, YA, yc, rfl, hyl, hown, hbx⟩ := hcut
  clear HBX
  have HOWN := Lib.hid hown
  have HBX := Lib.hid hbx
  have HYL := Lib.hid hyl
  have r0 := hbx.r.cell 0
  have r1 := hbx.r.cell 1
  have r2 := hbx.r.cell 2
  have r3 := hbx.r.cell 3
  have r4 := hbx.r.cell 4
  have r5 := hbx.r.cell 5
  have r6 := hbx.r.cell 6
  have rg := hbx.g.cell 0
  simp at r0 r1 r2 r3 r4 r5 r6 rg
  have HRG : Hid (∀ (x : Int) (m : Nat), Calls Tryd.prog 27 #[.int .i64 x, .pointer (some ⟨w.heap.size + 1, 0, none⟩)] (wc.drewN m) fun e w' => e = .returned (.int .i64 (regS x regs)) ∧ w' = wc.drewN m) :=
    fun x m => (reg_c x regs _ (wc.drewN m) HR.out rg).mono fun _ _ h => ⟨h.1, h.2.symm⟩
  have HPK : Hid (∀ (x q : Int) (m : Nat), 0 < q → q ≤ 1000 → Calls Tryd.prog 8 #[.int .i64 x, .int .i64 q] (wc.drewN m) fun e w' => e = .returned (.int .i64 (x % q)) ∧ w' = wc.drewN m) :=
    fun x q m h1 h2 => (pickN x q h1 (by omega) (wc.drewN m)).mono fun _ _ h => ⟨h.1, h.2.symm⟩
  clear hown hbx hyl HX
  go_wp2_with fail
  refine (reg_c x1 regs _ _ HR.out rg).mono ?_
  rintro e w' ⟨rfl, rfl⟩
  generalize regS x1 regs = d at *
  go_wp2_with fail
  refine (pickN x0 18 (by decide) (by decide) _).mono ?_
  rintro e w' ⟨rfl, rfl⟩
  have hy := HY.out
  clear HY
  generalize x0 % 18 = y at *
  rcases hy with rfl | rfl | rfl
  · go_wp2_with fail
    refine (pickN x2 12 (by decide) (by decide) _).mono ?_
    rintro e w' ⟨rfl, rfl⟩
    obtain ⟨z, hz⟩ : ∃ z : Nat, x2 % 12 = z := ⟨(x2 % 12).toNat, by omega⟩
    have hz12 : z < 12 := by omega
    obtain ⟨T, hT⟩ := (HBI.out.keep HBX.out.b) z hz12
    rw [hz]
    clear hz
    go_upto_if 90 with (fail)
    go_cut [12] (fun s wx => ∃ op, s = .int .i64 op ∧ wx = wc)
    case first =>
      by_cases h83 : x2.tmod 83 = 82
      · have h83' : (x2.tmod 83 == 82) = true := by simp [h83]
        go_wp2_with fail
        refine (pickN x2 45 (by decide) (by decide) _).mono ?_
        rintro e w' ⟨rfl, rfl⟩
        go_wp2_with fail
        go_meet
        exact ⟨_, rfl, rfl⟩
      · have h83' : (x2.tmod 83 == 82) = false := by simp [h83]
        go_wp2_with fail
        go_meet
        exact ⟨_, rfl, rfl⟩
    case rest =>
    obtain ⟨op, rfl, rfl⟩ := hcut
    clear hT
    have p0 := fun m => HRG.out x4 m
    generalize regS x4 regs = r0q at *
    have p1 := fun m => HRG.out x5 m
    generalize regS x5 regs = r1q at *
    go_wp2_with fail
    go_quiet (first | (go_at_call 27; with_reducible exact Calls.quiet_of_same (p0 _)) | (go_at_call 27; with_reducible exact Calls.quiet_of_same (p1 _)))
    go_wp2_with fail
    go_ret
    exact ⟨.bin op d _ _, rfl, True.intro, belowN HBX.out.b _⟩
  · have p0 := fun m => HRG.out x6 m
    generalize regS x6 regs = r0q at *
    have p1 := fun m => HRG.out x4 m
    generalize regS x4 regs = r1q at *
    have p2 := fun m => HRG.out x5 m
    generalize regS x5 regs = r2q at *
    go_wp2_with fail
    go_quiet (first | (go_at_call 27; with_reducible exact Calls.quiet_of_same (p0 _)) | (go_at_call 27; with_reducible exact Calls.quiet_of_same (p1 _)) | (go_at_call 27; with_reducible exact Calls.quiet_of_same (p2 _)))
    go_wp2_with fail
    go_ret
    exact ⟨.choose d _ _ _, rfl, True.intro, belowN HBX.out.b _⟩
  · have p0 := fun m => HRG.out x4 m
    generalize regS x4 regs = r0q at *
    have z0 := fun m => HPK.out x3 8 m (by decide) (by decide)
    generalize x3 % 8 = f0 at *
    go_wp2_with fail
    go_quiet (first | (go_at_call 27; with_reducible exact Calls.quiet_of_same (p0 _)) | (go_at_call 8; with_reducible exact Calls.quiet_of_same (z0 _)))
    go_wp2_with fail
    go_ret
    exact ⟨.putf _ _, rfl, True.intro, belowN HBX.out.b _⟩
end Go.Proofs.YtilifniflpbbkaaDoor
