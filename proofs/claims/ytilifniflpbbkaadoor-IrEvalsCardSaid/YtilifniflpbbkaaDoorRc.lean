/- The reference's Check. -/
import Derived.Test.YtilifniflpbbkaaDoorRr
import Derived.Test.YtilifniflpbbkaaDoorIr3
import Derived.Deep.DeepCutAuto
import Derived.Deep.CutBlock
import Derived.BigGuardPart
import Derived.Deep.QuietTactic
import Derived.BigQuiet
namespace Go.Proofs.YtilifniflpbbkaaDoor
open Go.RowKit On
/-- plain nodes that lie one behind the other -/
def PNodes (w : World) (A : Option Addr) (l : List Nd) : Prop :=
  ∀ (k : Nat) (n : Nd), l[k]? = some n → ∃ g o PA pc, A = some ⟨g, o, none⟩ ∧ (Ints .i64 w (.slice PA n.uses.length pc) n.uses ∧ n.uses.length ≤ 8) ∧
    w.cell? ⟨g, o + k * 8, none⟩ = some (.int .i64 n.pn.kind) ∧ w.cell? ⟨g, o + k * 8 + 1, none⟩ = some (.int .i64 n.pn.dst) ∧ w.cell? ⟨g, o + k * 8 + 2, none⟩ = some (.int .i64 n.pn.op) ∧ w.cell? ⟨g, o + k * 8 + 3, none⟩ = some (.int .i64 n.pn.n) ∧
    w.cell? ⟨g, o + k * 8 + 4, none⟩ = some (.int .i64 n.pn.a) ∧ w.cell? ⟨g, o + k * 8 + 5, none⟩ = some (.int .i64 n.pn.b) ∧ w.cell? ⟨g, o + k * 8 + 6, none⟩ = some (.int .i64 n.pn.tgt) ∧ w.cell? ⟨g, o + k * 8 + 7, none⟩ = some (.slice PA n.uses.length pc)
theorem PNodes.keep {w w' : World} {A : Option Addr} {l : List Nd} (h : PNodes w A l) (hb : Below w.heap.size w w') : PNodes w' A l := fun k n hk => by
  obtain ⟨g, o, PA, pc, h1, h2, c0, c1, c2, c3, c4, c5, c6, c7⟩ := h k n hk
  have key : ∀ (p : Addr) (v : Value), w.cell? p = some v → w'.cell? p = some v := fun p v hp => by
    rw [hb.cell (World.block_lt_of_cell? _ _ hp)]; exact hp
  exact ⟨g, o, PA, pc, h1, ⟨h2.1.keep hb, h2.2⟩, key _ _ c0, key _ _ c1, key _ _ c2, key _ _ c3, key _ _ c4, key _ _ c5, key _ _ c6, key _ _ c7⟩
/-- the reference's check of a node is ir's -/
theorem right_ref {n : Nd} {regs : Int} {cnt : Nat} {at_ : Int} (h0 : 0 ≤ regs) : n.rightS regs cnt at_ = true ↔
    n.fieldsS = true ∧ n.uses.all (fun r => inS r regs) = true ∧ ¬ (0 ≤ n.writes ∧ (regs ≤ n.pn.dst ∨ n.pn.dst < n.writes - 1)) ∧ (n.next at_).all (fun t => inS t (cnt : Int)) = true := by
  unfold Nd.rightS
  simp only [Bool.and_eq_true, Bool.or_eq_true, beq_iff_eq]
  have key : (inS n.dst regs = true ∨ n.dst = -1 ∧ n.bareS = true) ↔ ¬ (0 ≤ n.writes ∧ (regs ≤ n.pn.dst ∨ n.pn.dst < n.writes - 1)) := by
    unfold inS
    simp only [Bool.and_eq_true, decide_eq_true_eq]
    cases n <;> simp [Nd.dst, Nd.bareS, Nd.writes, Nd.pn] <;> omega
  constructor
  · rintro ⟨⟨⟨h1, h2⟩, h3⟩, h4⟩; exact ⟨h1, h2, key.mp h4, h3⟩
  · rintro ⟨h1, h2, h3, h4⟩; exact ⟨⟨⟨h1, h2⟩, h4⟩, key.mpr h3⟩
theorem bool_iff_false {P : Prop} (h : ¬ P) : (false = true ↔ P) := by simp [h]
set_option maxHeartbeats 16000000 in
set_option maxRecDepth 100000 in
theorem refCheck_c (params regs : Int) (A : Option Addr) (c : Nat) (l : List Nd) (w : World) (hl : PNodes w A l) :
    Calls Tryd.prog 23 #[.agg #[.int .i64 params, .int .i64 regs, .slice A l.length c]] w (Tells (CheckP params regs l) w) := by
  have HB0 : Hid (Below w.heap.size w (w.alloc (.cells #[.int .i64 params, .int .i64 regs, .slice A l.length c] 56))) := (Below.refl _ _).alloc (Nat.le_refl _) _
  have KP := Lib.hid (Blk.new w 56 #[.int .i64 params, .int .i64 regs, .slice A l.length c])
  have HL := Lib.hid hl
  have HP : Hid (CheckP params regs l ↔ 1 ≤ l.length ∧ l.length ≤ 250 ∧ (0 ≤ regs ∧ regs ≤ 40) ∧ (0 ≤ params ∧ params ≤ 4) ∧ params ≤ regs ∧ ∀ (k : Nat) (n : Nd), l[k]? = some n → n.rightS regs l.length k = true) := by
    show _ ↔ _
    unfold CheckP inS
    simp only [Bool.and_eq_true, decide_eq_true_eq]
    constructor
    · rintro ⟨a, b, ⟨c1, c2⟩, ⟨d1, d2⟩, e, f⟩; exact ⟨a, b, ⟨c1, by omega⟩, ⟨d1, by omega⟩, e, f⟩
    · rintro ⟨a, b, ⟨c1, c2⟩, ⟨d1, d2⟩, e, f⟩; exact ⟨a, b, ⟨c1, by omega⟩, ⟨d1, by omega⟩, e, f⟩
  have hno : Hid (¬ (1 ≤ l.length ∧ l.length ≤ 250 ∧ (0 ≤ regs ∧ regs ≤ 40) ∧ (0 ≤ params ∧ params ≤ 4) ∧ params ≤ regs) → (false = true ↔ CheckP params regs l)) := fun h => by
    rw [HP.out]; simp only [Bool.false_eq_true, false_iff]; rintro ⟨h1, h2, h3, h4, h5, _⟩; exact h ⟨h1, h2, h3, h4, h5⟩
  clear hl
  by_cases h1 : (l.length : Int) < 1
  · go_enter Tryd.func23, Tryd.ntmps23
    go_wp2_with fail
    go_ret
    exact ⟨false, rfl, hno.out (fun h => by omega), HB0.out⟩
  by_cases h2 : (l.length : Int) > 250
  · go_enter Tryd.func23, Tryd.ntmps23
    go_wp2_with fail
    go_ret
    exact ⟨false, rfl, hno.out (fun h => by omega), HB0.out⟩
  by_cases h3 : regs < 0
  · go_enter Tryd.func23, Tryd.ntmps23
    go_wp2_with fail
    go_ret
    exact ⟨false, rfl, hno.out (fun h => by omega), HB0.out⟩
  by_cases h4 : regs > 40
  · go_enter Tryd.func23, Tryd.ntmps23
    go_wp2_with fail
    go_ret
    exact ⟨false, rfl, hno.out (fun h => by omega), HB0.out⟩
  by_cases h5 : params < 0
  · go_enter Tryd.func23, Tryd.ntmps23
    go_wp2_with fail
    go_ret
    exact ⟨false, rfl, hno.out (fun h => by omega), HB0.out⟩
  by_cases h6 : params > 4
  · go_enter Tryd.func23, Tryd.ntmps23
    go_wp2_with fail
    go_ret
    exact ⟨false, rfl, hno.out (fun h => by omega), HB0.out⟩
  by_cases h7 : params > regs
  · go_enter Tryd.func23, Tryd.ntmps23
    go_wp2_with fail
    go_ret
    exact ⟨false, rfl, hno.out (fun h => by omega), HB0.out⟩
  have HYES : Hid (1 ≤ l.length ∧ l.length ≤ 250 ∧ (0 ≤ regs ∧ regs ≤ 40) ∧ (0 ≤ params ∧ params ≤ 4) ∧ params ≤ regs) := ⟨by omega, by omega, ⟨by omega, by omega⟩, ⟨by omega, by omega⟩, by omega⟩
  go_enter Tryd.func23, Tryd.ntmps23
  go_wp2_with fail
  clear hno h1 h3 h4 h5 h6 h7
  have hl250 : (l.length : Int) ≤ 250 := by omega
  clear h2
  go_loopw [3] (fun i wx => ∃ k : Nat, k ≤ l.length ∧ i = .int .i64 k ∧ Below w.heap.size w wx ∧ Blk wx w.heap.size 56 #[.int .i64 params, .int .i64 regs, .slice A l.length c] ∧ ∀ (j : Nat) (n : Nd), j < k → l[j]? = some n → n.rightS regs l.length j = true) (fun i _ => l.length - (intOf i).toNat)
  case atStart => exact ⟨0, Nat.zero_le _, rfl, HB0.out, KP.out, fun j n h => by omega⟩
  case round =>
    obtain ⟨k, hk, rfl, hb, hp, hall⟩ := hrel
    have HBR := Lib.hid hb; have HPR := Lib.hid hp; have HALL := Lib.hid hall
    have p1 := hp.cell 1
    have p2 := hp.cell 2
    simp at p1 p2
    clear hall HB0 KP
    by_cases hlt : k < l.length
    · obtain ⟨g, o, PA, pc, rfl, ⟨hi, hul8⟩, c0, c1, c2, c3, c4, c5, c6, c7⟩ := (HL.out.keep hb) k _ (List.getElem?_eq_getElem hlt)
      have HG : Hid (l[k]? = some (l[k]'hlt)) := List.getElem?_eq_getElem hlt
      generalize l[k]'hlt = n at *
      have HI := Lib.hid hi
      clear hb hp hi
      have hR := Lib.hid (fun wq => refRight_c n PA pc wq)
      have hW := Lib.hid (fun wq => refWrites_c n PA pc wq)
      have hN := Lib.hid (fun wq => refNext_c n (k : Int) (by omega) (by omega) PA pc wq)
      have HIFF : Hid (n.rightS regs l.length k = true ↔ n.fieldsS = true ∧ n.uses.all (fun r => inS r regs) = true ∧ ¬ (0 ≤ n.writes ∧ (regs ≤ n.pn.dst ∨ n.pn.dst < n.writes - 1)) ∧ (n.next (k : Int)).all (fun t => inS t (l.length : Int)) = true) := right_ref HYES.out.2.2.1.1
      have HNX := Lib.hid (Nd.next_len (k : Int) n)
      have hwr : n.writes = 1 ∨ n.writes = 0 ∨ n.writes = -1 := by cases n <;> simp [Nd.writes]
      unfold Pn.val at hR hW hN
      rw [n.pn_args] at hR hW hN
      generalize n.uses = us at *
      generalize n.pn.kind = k0 at *
      generalize n.pn.dst = k1 at *
      generalize n.pn.op = k2 at *
      generalize n.pn.n = k3 at *
      generalize n.pn.a = k4 at *
      generalize n.pn.b = k5 at *
      generalize n.pn.tgt = k6 at *
      generalize n.next (k : Int) = ns at *
      generalize n.writes = wr' at *
      generalize n.fieldsS = ff at *
      obtain ⟨L, hL⟩ : ∃ L, us.length = L := ⟨_, rfl⟩
      rw [hL] at hR hW hN HI c7
      have HLL := Lib.hid hL
      have hL8 : (L : Int) ≤ 8 := by omega
      clear hL hul8
      go_wp2_with fail
      obtain ⟨wq, hwq⟩ : ∃ wq, wq = wr.alloc (.cells #[.int .i64 k0, .int .i64 k1, .int .i64 k2, .int .i64 k3, .int .i64 k4, .int .i64 k5, .int .i64 k6, .slice PA L pc] 30) := ⟨_, rfl⟩
      obtain ⟨Y, hY⟩ : ∃ Y, Y = wr.heap.size := ⟨_, rfl⟩
      have KN : Blk wq Y 30 #[.int .i64 k0, .int .i64 k1, .int .i64 k2, .int .i64 k3, .int .i64 k4, .int .i64 k5, .int .i64 k6, .slice PA L pc] := by rw [hwq, hY]; exact Blk.new _ _ _
      have hbq : Below wr.heap.size wr wq := by rw [hwq]; exact (Below.refl _ _).alloc (Nat.le_refl _) _
      rw [← hwq, ← hY]
      clear hwq hY
      refine (hR.out _).mono ?_
      rintro e w1 ⟨rfl, hb1⟩
      have hb01 : Below wr.heap.size wr w1 := hbq.trans (hb1.mono hbq.size)
      have HB1 := Lib.hid (HBR.out.trans (hb01.mono HBR.out.size))
      have HP1 := Lib.hid (HPR.out.only (S := fun _ => False) (Only.of_below hb01) id)
      have HI1 := Lib.hid (HI.out.keep hb01)
      have HN1 := Lib.hid (KN.only (S := fun _ => False) (Only.of_below hb1) id)
      clear KN hbq hb1 hb01 p1 p2 c0 c1 c2 c3 c4 c5 c6 c7 hR HBR HPR HI
      cases ff
      · go_wp2_with fail
        go_ret
        refine ⟨false, rfl, ?_, HB1.out⟩
        rw [HP.out]
        refine bool_iff_false fun h => ?_
        have := HIFF.out.mp (h.2.2.2.2.2 k n HG.out)
        exact absurd this.1 (by simp)
      have n7 := HN1.out.cell 7
      have p1 := HP1.out.cell 1
      simp at n7 p1
      go_wp2_with fail
      clear n7 p1
      have HHL : Hid (us.length = L) := HLL.out
      go_loopw [5] (fun i wx => ∃ j : Nat, j ≤ L ∧ i = .int .i64 j ∧ Below w1.heap.size w1 wx ∧ (us.take j).all (fun r => inS r regs) = true) (fun i _ => L - (intOf i).toNat)
      case atStart => exact ⟨0, Nat.zero_le _, rfl, Below.refl _ _, by simp⟩
      case round =>
        obtain ⟨j, hj, rfl, hbx, ha⟩ := hrel
        have HA := Lib.hid ha
        have HBX := Lib.hid hbx
        have n1 := (HN1.out.only (S := fun _ => False) (Only.of_below hbx) id).cell 1
        have n7 := (HN1.out.only (S := fun _ => False) (Only.of_below hbx) id).cell 7
        have p1 := (HP1.out.only (S := fun _ => False) (Only.of_below hbx) id).cell 1
        simp at n1 n7 p1
        obtain ⟨A', c', e, _, hcell⟩ := HI1.out.keep hbx
        injection e with e1 e2 e3
        clear e2
        subst e1; subst e3
        have HCELL := Lib.hid hcell
        clear ha hbx hcell
        by_cases hjl : j < L
        · have hju : j < us.length := by rw [HHL.out]; exact hjl
          obtain ⟨g', o', rfl, cx⟩ := HCELL.out j _ (List.getElem?_eq_getElem hju)
          have HX : Hid (inS (us[j]'hju) regs = true → (us.take (j + 1)).all (fun r => inS r regs) = true) := fun h => all_take_succ HA.out hju h
          have HX2 : Hid (inS (us[j]'hju) regs = false → us.all (fun r => inS r regs) = false) := fun h => all_false hju h
          generalize us[j]'hju = x at *
          have hnoR : Hid (inS x regs = false → (false = true ↔ CheckP params regs l)) := fun hx => by
            rw [HP.out]
            refine bool_iff_false fun h => ?_
            have := HIFF.out.mp (h.2.2.2.2.2 k n HG.out)
            rw [HX2.out hx] at this
            exact absurd this.2.1 (by simp)
          by_cases hx0 : x < 0
          · go_wp2_with fail
            go_quiet (fail)
            go_wp2_with fail
            go_ret
            exact ⟨false, rfl, hnoR.out (by unfold inS; rw [decide_eq_false (by omega)]; rfl), belowN (HB1.out.trans (HBX.out.mono HB1.out.size)) _⟩
          · have hx0' : decide (x < 0) = false := decide_eq_false hx0
            by_cases hx1 : x ≥ regs
            · go_wp2_with fail
              go_quiet (fail)
              go_wp2_with fail
              go_ret
              exact ⟨false, rfl, hnoR.out (by unfold inS; rw [decide_eq_false (show ¬ x < regs by omega), Bool.and_false]), belowN (HB1.out.trans (HBX.out.mono HB1.out.size)) _⟩
            · go_wp2_with fail
              go_quiet (fail)
              go_wp2_with fail
              go_roundw
              case rel =>
                have hx := HX.out (by unfold inS; rw [decide_eq_true (show 0 ≤ x by omega), decide_eq_true (show x < regs by omega)]; rfl)
                first
                | exact ⟨j + 1, by omega, by go_num, belowN HBX.out _, hx⟩
                | exact ⟨_, _, _, ⟨j + 1, by omega, rfl, belowN HBX.out _, hx⟩, rfl, rfl, by go_num⟩
                | exact ⟨_, _, _, ⟨j + 1, by omega, rfl, belowN HBX.out _, hx⟩, rfl, by go_num, rfl⟩
              case measure => simp [intOf]; omega
        · have hju : us.take j = us := List.take_of_length_le (by rw [HHL.out]; omega)
          have hA2 := HA.out
          rw [hju] at hA2
          have HA2 := Lib.hid hA2
          clear hju hA2 HA HCELL HI1 n1 n7 p1
          have HB2 := Lib.hid (HB1.out.trans (HBX.out.mono HB1.out.size))
          have kn := HN1.out.only (S := fun _ => False) (Only.of_below HBX.out) id
          have kp := HP1.out.only (S := fun _ => False) (Only.of_below HBX.out) id
          have HN2 := Lib.hid kn; have HP2 := Lib.hid kp
          have n0 := kn.cell 0
          have n1 := kn.cell 1
          have n2 := kn.cell 2
          have n3 := kn.cell 3
          have n4 := kn.cell 4
          have n5 := kn.cell 5
          have n6 := kn.cell 6
          have n7 := kn.cell 7
          simp at n0 n1 n2 n3 n4 n5 n6 n7
          clear kn kp HB1 HN1 HP1 HBX
          go_wp2_with fail
          refine (hW.out _).mono ?_
          rintro e w3 ⟨rfl, hb3⟩
          have HB3 := Lib.hid (HB2.out.trans (hb3.mono HB2.out.size))
          have kn := HN2.out.only (S := fun _ => False) (Only.of_below hb3) id
          have kp := HP2.out.only (S := fun _ => False) (Only.of_below hb3) id
          have HN3 := Lib.hid kn; have HP3 := Lib.hid kp
          clear hb3 HB2 HN2 HP2 n0 n1 n2 n3 n4 n5 n6 n7 hW
          have n0 := kn.cell 0
          have n1 := kn.cell 1
          have n2 := kn.cell 2
          have n3 := kn.cell 3
          have n4 := kn.cell 4
          have n5 := kn.cell 5
          have n6 := kn.cell 6
          have n7 := kn.cell 7
          have p1 := kp.cell 1
          have p2 := kp.cell 2
          simp at n0 n1 n2 n3 n4 n5 n6 n7 p1 p2
          clear kn kp
          rcases hwr with rfl | rfl | rfl
          · by_cases hq : k1 ≥ regs
            · have hqd : decide (k1 ≥ regs) = true := decide_eq_true hq
              have hnoD : Hid (false = true ↔ CheckP params regs l) := by
                show _ ↔ _
                rw [HP.out]
                refine bool_iff_false fun h => ?_
                have := HIFF.out.mp (h.2.2.2.2.2 k n HG.out)
                exact this.2.2.1 ⟨by omega, by omega⟩
              go_wp2_with fail
              go_ret
              exact ⟨false, rfl, hnoD.out, HB3.out⟩
            · have hqd : decide (k1 ≥ regs) = false := decide_eq_false hq
              by_cases hq2 : k1 < 0
              · have hq2d : decide (k1 < 0) = true := decide_eq_true hq2
                have hnoD : Hid (false = true ↔ CheckP params regs l) := by
                  show _ ↔ _
                  rw [HP.out]
                  refine bool_iff_false fun h => ?_
                  have := HIFF.out.mp (h.2.2.2.2.2 k n HG.out)
                  exact this.2.2.1 ⟨by omega, by omega⟩
                go_wp2_with fail
                go_ret
                exact ⟨false, rfl, hnoD.out, HB3.out⟩
              · have hq2d : decide (k1 < 0) = false := decide_eq_false hq2
                have HDST : Hid (¬ (0 ≤ (1 : Int) ∧ (regs ≤ k1 ∨ k1 < (1 : Int) - 1))) := by show ¬ _; omega
                go_wp2_with fail
                refine (hN.out _).mono ?_
                rintro e w4 ⟨sn, rfl, hi4, hb4⟩
                have HB4 := Lib.hid (HB3.out.trans (hb4.mono HB3.out.size))
                have HP4 := Lib.hid (HP3.out.only (S := fun _ => False) (Only.of_below hb4) id)
                obtain ⟨NA, nc, rfl, _, hncell⟩ := hi4
                have HNC := Lib.hid hncell
                clear hb4 hncell n0 n1 n2 n3 n4 n5 n6 n7 p1 p2 HB3 HP3 HN3 hN
                have hns2 : (ns.length : Int) ≤ 2 := by have := HNX.out; omega
                go_wp2_with fail
                go_loopw [8] (fun i wx => ∃ j : Nat, j ≤ ns.length ∧ i = .int .i64 j ∧ Below w4.heap.size w4 wx ∧ (ns.take j).all (fun t => inS t (l.length : Int)) = true) (fun i _ => ns.length - (intOf i).toNat)
                case atStart => exact ⟨0, Nat.zero_le _, rfl, Below.refl _ _, by simp⟩
                case round =>
                  obtain ⟨q, hq, rfl, hbx, ha⟩ := hrel
                  have HNA := Lib.hid ha
                  have HBY := Lib.hid hbx
                  have p2 := (HP4.out.only (S := fun _ => False) (Only.of_below hbx) id).cell 2
                  simp at p2
                  clear ha hbx
                  by_cases hql : q < ns.length
                  · obtain ⟨g', o', rfl, cx⟩ := HNC.out q _ (List.getElem?_eq_getElem hql)
                    have cx' := (HBY.out.cell (World.block_lt_of_cell? _ _ cx)).trans cx
                    have HX : Hid (inS (ns[q]'hql) (l.length : Int) = true → (ns.take (q + 1)).all (fun t => inS t (l.length : Int)) = true) := fun h => all_take_succ HNA.out hql h
                    have HX2 : Hid (inS (ns[q]'hql) (l.length : Int) = false → ns.all (fun t => inS t (l.length : Int)) = false) := fun h => all_false hql h
                    generalize ns[q]'hql = x at *
                    clear cx
                    have hnoR : Hid (inS x (l.length : Int) = false → (false = true ↔ CheckP params regs l)) := fun hx => by
                      rw [HP.out]
                      refine bool_iff_false fun h => ?_
                      have := HIFF.out.mp (h.2.2.2.2.2 k n HG.out)
                      rw [HX2.out hx] at this
                      exact absurd this.2.2.2 (by simp)
                    by_cases hx0 : x < 0
                    · go_wp2_with fail
                      go_quiet (fail)
                      go_wp2_with fail
                      go_ret
                      exact ⟨false, rfl, hnoR.out (by unfold inS; rw [decide_eq_false (by omega)]; rfl), belowN (HB4.out.trans (HBY.out.mono HB4.out.size)) _⟩
                    · have hx0' : decide (x < 0) = false := decide_eq_false hx0
                      by_cases hx1 : x ≥ (l.length : Int)
                      · go_wp2_with fail
                        go_quiet (fail)
                        go_wp2_with fail
                        go_ret
                        exact ⟨false, rfl, hnoR.out (by unfold inS; rw [decide_eq_false (show ¬ x < (l.length : Int) by omega), Bool.and_false]), belowN (HB4.out.trans (HBY.out.mono HB4.out.size)) _⟩
                      · go_wp2_with fail
                        go_quiet (fail)
                        go_wp2_with fail
                        go_roundw
                        case rel =>
                          have hx := HX.out (by unfold inS; rw [decide_eq_true (show 0 ≤ x by omega), decide_eq_true (show x < (l.length : Int) by omega)]; rfl)
                          exact ⟨q + 1, by omega, by go_num, belowN HBY.out _, hx⟩
                        case measure => simp [intOf]; omega
                  · have hju : ns.take q = ns := List.take_of_length_le (by omega)
                    have hN2 := HNA.out
                    rw [hju] at hN2
                    have HR : Hid (n.rightS regs l.length k = true) := HIFF.out.mpr ⟨by first | trivial | rfl, HA2.out, HDST.out, hN2⟩
                    have hb6 := HB4.out.trans (HBY.out.mono HB4.out.size)
                    have HB6 := Lib.hid hb6
                    have HP6 := Lib.hid (HP4.out.only (S := fun _ => False) (Only.of_below HBY.out) id)
                    clear hju hN2 hb6 HNA HNC HBY HP4 HB4 p2
                    go_wp2_with fail
                    go_roundw
                    case rel =>
                      refine ⟨k + 1, by omega, by go_num, HB6.out, HP6.out, fun j m hj hm => ?_⟩
                      by_cases e : j = k
                      · subst e
                        rw [HG.out] at hm
                        cases hm
                        exact HR.out
                      · exact HALL.out j m (by omega) hm
                    case measure => simp [intOf]; omega
          · by_cases hq : k1 ≥ regs
            · have hqd : decide (k1 ≥ regs) = true := decide_eq_true hq
              have hnoD : Hid (false = true ↔ CheckP params regs l) := by
                show _ ↔ _
                rw [HP.out]
                refine bool_iff_false fun h => ?_
                have := HIFF.out.mp (h.2.2.2.2.2 k n HG.out)
                exact this.2.2.1 ⟨by omega, by omega⟩
              go_wp2_with fail
              go_ret
              exact ⟨false, rfl, hnoD.out, HB3.out⟩
            · have hqd : decide (k1 ≥ regs) = false := decide_eq_false hq
              by_cases hq2 : k1 < -1
              · have hq2d : decide (k1 < -1) = true := decide_eq_true hq2
                have hnoD : Hid (false = true ↔ CheckP params regs l) := by
                  show _ ↔ _
                  rw [HP.out]
                  refine bool_iff_false fun h => ?_
                  have := HIFF.out.mp (h.2.2.2.2.2 k n HG.out)
                  exact this.2.2.1 ⟨by omega, by omega⟩
                go_wp2_with fail
                go_ret
                exact ⟨false, rfl, hnoD.out, HB3.out⟩
              · have hq2d : decide (k1 < -1) = false := decide_eq_false hq2
                have HDST : Hid (¬ (0 ≤ (0 : Int) ∧ (regs ≤ k1 ∨ k1 < (0 : Int) - 1))) := by show ¬ _; omega
                go_wp2_with fail
                refine (hN.out _).mono ?_
                rintro e w4 ⟨sn, rfl, hi4, hb4⟩
                have HB4 := Lib.hid (HB3.out.trans (hb4.mono HB3.out.size))
                have HP4 := Lib.hid (HP3.out.only (S := fun _ => False) (Only.of_below hb4) id)
                obtain ⟨NA, nc, rfl, _, hncell⟩ := hi4
                have HNC := Lib.hid hncell
                clear hb4 hncell n0 n1 n2 n3 n4 n5 n6 n7 p1 p2 HB3 HP3 HN3 hN
                have hns2 : (ns.length : Int) ≤ 2 := by have := HNX.out; omega
                go_wp2_with fail
                go_loopw [8] (fun i wx => ∃ j : Nat, j ≤ ns.length ∧ i = .int .i64 j ∧ Below w4.heap.size w4 wx ∧ (ns.take j).all (fun t => inS t (l.length : Int)) = true) (fun i _ => ns.length - (intOf i).toNat)
                case atStart => exact ⟨0, Nat.zero_le _, rfl, Below.refl _ _, by simp⟩
                case round =>
                  obtain ⟨q, hq, rfl, hbx, ha⟩ := hrel
                  have HNA := Lib.hid ha
                  have HBY := Lib.hid hbx
                  have p2 := (HP4.out.only (S := fun _ => False) (Only.of_below hbx) id).cell 2
                  simp at p2
                  clear ha hbx
                  by_cases hql : q < ns.length
                  · obtain ⟨g', o', rfl, cx⟩ := HNC.out q _ (List.getElem?_eq_getElem hql)
                    have cx' := (HBY.out.cell (World.block_lt_of_cell? _ _ cx)).trans cx
                    have HX : Hid (inS (ns[q]'hql) (l.length : Int) = true → (ns.take (q + 1)).all (fun t => inS t (l.length : Int)) = true) := fun h => all_take_succ HNA.out hql h
                    have HX2 : Hid (inS (ns[q]'hql) (l.length : Int) = false → ns.all (fun t => inS t (l.length : Int)) = false) := fun h => all_false hql h
                    generalize ns[q]'hql = x at *
                    clear cx
                    have hnoR : Hid (inS x (l.length : Int) = false → (false = true ↔ CheckP params regs l)) := fun hx => by
                      rw [HP.out]
                      refine bool_iff_false fun h => ?_
                      have := HIFF.out.mp (h.2.2.2.2.2 k n HG.out)
                      rw [HX2.out hx] at this
                      exact absurd this.2.2.2 (by simp)
                    by_cases hx0 : x < 0
                    · go_wp2_with fail
                      go_quiet (fail)
                      go_wp2_with fail
                      go_ret
                      exact ⟨false, rfl, hnoR.out (by unfold inS; rw [decide_eq_false (by omega)]; rfl), belowN (HB4.out.trans (HBY.out.mono HB4.out.size)) _⟩
                    · have hx0' : decide (x < 0) = false := decide_eq_false hx0
                      by_cases hx1 : x ≥ (l.length : Int)
                      · go_wp2_with fail
                        go_quiet (fail)
                        go_wp2_with fail
                        go_ret
                        exact ⟨false, rfl, hnoR.out (by unfold inS; rw [decide_eq_false (show ¬ x < (l.length : Int) by omega), Bool.and_false]), belowN (HB4.out.trans (HBY.out.mono HB4.out.size)) _⟩
                      · go_wp2_with fail
                        go_quiet (fail)
                        go_wp2_with fail
                        go_roundw
                        case rel =>
                          have hx := HX.out (by unfold inS; rw [decide_eq_true (show 0 ≤ x by omega), decide_eq_true (show x < (l.length : Int) by omega)]; rfl)
                          exact ⟨q + 1, by omega, by go_num, belowN HBY.out _, hx⟩
                        case measure => simp [intOf]; omega
                  · have hju : ns.take q = ns := List.take_of_length_le (by omega)
                    have hN2 := HNA.out
                    rw [hju] at hN2
                    have HR : Hid (n.rightS regs l.length k = true) := HIFF.out.mpr ⟨by first | trivial | rfl, HA2.out, HDST.out, hN2⟩
                    have hb6 := HB4.out.trans (HBY.out.mono HB4.out.size)
                    have HB6 := Lib.hid hb6
                    have HP6 := Lib.hid (HP4.out.only (S := fun _ => False) (Only.of_below HBY.out) id)
                    clear hju hN2 hb6 HNA HNC HBY HP4 HB4 p2
                    go_wp2_with fail
                    go_roundw
                    case rel =>
                      refine ⟨k + 1, by omega, by go_num, HB6.out, HP6.out, fun j m hj hm => ?_⟩
                      by_cases e : j = k
                      · subst e
                        rw [HG.out] at hm
                        cases hm
                        exact HR.out
                      · exact HALL.out j m (by omega) hm
                    case measure => simp [intOf]; omega
          · have HDST : Hid (¬ (0 ≤ (-1 : Int) ∧ (regs ≤ k1 ∨ k1 < (-1 : Int) - 1))) := by show ¬ _; omega
            go_wp2_with fail
            refine (hN.out _).mono ?_
            rintro e w4 ⟨sn, rfl, hi4, hb4⟩
            have HB4 := Lib.hid (HB3.out.trans (hb4.mono HB3.out.size))
            have HP4 := Lib.hid (HP3.out.only (S := fun _ => False) (Only.of_below hb4) id)
            obtain ⟨NA, nc, rfl, _, hncell⟩ := hi4
            have HNC := Lib.hid hncell
            clear hb4 hncell n0 n1 n2 n3 n4 n5 n6 n7 p1 p2 HB3 HP3 HN3 hN
            have hns2 : (ns.length : Int) ≤ 2 := by have := HNX.out; omega
            go_wp2_with fail
            go_loopw [8] (fun i wx => ∃ j : Nat, j ≤ ns.length ∧ i = .int .i64 j ∧ Below w4.heap.size w4 wx ∧ (ns.take j).all (fun t => inS t (l.length : Int)) = true) (fun i _ => ns.length - (intOf i).toNat)
            case atStart => exact ⟨0, Nat.zero_le _, rfl, Below.refl _ _, by simp⟩
            case round =>
              obtain ⟨q, hq, rfl, hbx, ha⟩ := hrel
              have HNA := Lib.hid ha
              have HBY := Lib.hid hbx
              have p2 := (HP4.out.only (S := fun _ => False) (Only.of_below hbx) id).cell 2
              simp at p2
              clear ha hbx
              by_cases hql : q < ns.length
              · obtain ⟨g', o', rfl, cx⟩ := HNC.out q _ (List.getElem?_eq_getElem hql)
                have cx' := (HBY.out.cell (World.block_lt_of_cell? _ _ cx)).trans cx
                have HX : Hid (inS (ns[q]'hql) (l.length : Int) = true → (ns.take (q + 1)).all (fun t => inS t (l.length : Int)) = true) := fun h => all_take_succ HNA.out hql h
                have HX2 : Hid (inS (ns[q]'hql) (l.length : Int) = false → ns.all (fun t => inS t (l.length : Int)) = false) := fun h => all_false hql h
                generalize ns[q]'hql = x at *
                clear cx
                have hnoR : Hid (inS x (l.length : Int) = false → (false = true ↔ CheckP params regs l)) := fun hx => by
                  rw [HP.out]
                  refine bool_iff_false fun h => ?_
                  have := HIFF.out.mp (h.2.2.2.2.2 k n HG.out)
                  rw [HX2.out hx] at this
                  exact absurd this.2.2.2 (by simp)
                by_cases hx0 : x < 0
                · go_wp2_with fail
                  go_quiet (fail)
                  go_wp2_with fail
                  go_ret
                  exact ⟨false, rfl, hnoR.out (by unfold inS; rw [decide_eq_false (by omega)]; rfl), belowN (HB4.out.trans (HBY.out.mono HB4.out.size)) _⟩
                · have hx0' : decide (x < 0) = false := decide_eq_false hx0
                  by_cases hx1 : x ≥ (l.length : Int)
                  · go_wp2_with fail
                    go_quiet (fail)
                    go_wp2_with fail
                    go_ret
                    exact ⟨false, rfl, hnoR.out (by unfold inS; rw [decide_eq_false (show ¬ x < (l.length : Int) by omega), Bool.and_false]), belowN (HB4.out.trans (HBY.out.mono HB4.out.size)) _⟩
                  · go_wp2_with fail
                    go_quiet (fail)
                    go_wp2_with fail
                    go_roundw
                    case rel =>
                      have hx := HX.out (by unfold inS; rw [decide_eq_true (show 0 ≤ x by omega), decide_eq_true (show x < (l.length : Int) by omega)]; rfl)
                      exact ⟨q + 1, by omega, by go_num, belowN HBY.out _, hx⟩
                    case measure => simp [intOf]; omega
              · have hju : ns.take q = ns := List.take_of_length_le (by omega)
                have hN2 := HNA.out
                rw [hju] at hN2
                have HR : Hid (n.rightS regs l.length k = true) := HIFF.out.mpr ⟨by first | trivial | rfl, HA2.out, HDST.out, hN2⟩
                have hb6 := HB4.out.trans (HBY.out.mono HB4.out.size)
                have HB6 := Lib.hid hb6
                have HP6 := Lib.hid (HP4.out.only (S := fun _ => False) (Only.of_below HBY.out) id)
                clear hju hN2 hb6 HNA HNC HBY HP4 HB4 p2
                go_wp2_with fail
                go_roundw
                case rel =>
                  refine ⟨k + 1, by omega, by go_num, HB6.out, HP6.out, fun j m hj hm => ?_⟩
                  by_cases e : j = k
                  · subst e
                    rw [HG.out] at hm
                    cases hm
                    exact HR.out
                  · exact HALL.out j m (by omega) hm
                case measure => simp [intOf]; omega
    · go_wp2_with fail
      go_ret
      refine ⟨true, rfl, ?_, HBR.out⟩
      rw [HP.out]
      obtain ⟨h1, h2, h3, h4, h5⟩ := HYES.out
      simp only [true_iff]
      exact ⟨h1, h2, h3, h4, h5, fun j m hm => HALL.out j m (by have := (List.getElem?_eq_some_iff.mp hm).1; omega) hm⟩
end Go.Proofs.YtilifniflpbbkaaDoor
