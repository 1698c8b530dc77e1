/- hand.Tame: a program that is right. -/
import Derived.Test.YtilifniflpbbkaaDoorPw
import Derived.Test.YtilifniflpbbkaaDoorPl
import Derived.Laws.OwnMore
import Derived.Deep.OwnRows
namespace Go.Proofs.YtilifniflpbbkaaDoor
open Go.RowKit On
theorem Pg.make {K : Nat → Prop} (w : World) (n : Nat) (hn : n ≤ maxLen) (hk : K w.heap.size) : Pg K (w.alloc (.cells (madeCells #[.nilIface] n) 26)) (.slice (some ⟨w.heap.size, 0, none⟩) n n) (List.replicate n .none) := by
  refine ⟨?_, fun k e => ?_, fun x hx => ?_, fun x hx hne => ?_⟩
  · rw [List.length_replicate]
    refine ⟨by simp, .inr ⟨w.heap.size, n, madeCells #[.nilIface] n, rfl, Nat.zero_le _, Blk.new w _ _, Nat.le_refl _, hn, by simp [size_madeCells], ?_⟩⟩
    rw [toList_madeCells_one, List.map_replicate, Nat.mul_one, List.take_of_length_le (by simp)]; rfl
  · simp [Value.ownBlock] at e; subst e; exact hk
  · rw [(List.mem_replicate.mp hx).2]; exact True.intro
  · rw [(List.mem_replicate.mp hx).2] at hne; exact absurd rfl hne
theorem Pg.put' {K : Nat → Prop} {g c n : Nat} {w : World} {l : List Nd} (h : Pg K w (.slice (some ⟨g, 0, none⟩) n c) l) (hl : l.length = n) (k : Nat) (x : Nd) (hx : x.ok w)
    (hs : x.uses ≠ [] → ∀ a, x.sl = some a → K a.block ∧ g ≠ a.block) :
    Pg K (w.setCell ⟨g, k, none⟩ x.val) (.slice (some ⟨g, 0, none⟩) n c) (l.set k x) := by
  subst hl
  have := h.put k x hx hs
  rw [List.length_set] at this
  exact this
theorem Pg.head {K : Nat → Prop} {w : World} {A : Option Addr} {c n : Nat} {l : List Nd} (h : Pg K w (.slice A n c) l) (hl : l.length = n) (h1 : 1 ≤ n) : ∃ g, A = some ⟨g, 0, none⟩ ∧ K g := by
  subst hl
  obtain ⟨A', c', e, ⟨_, h0, _⟩ | ⟨g, cur, rfl, _⟩⟩ := own_slice h.own
  · omega
  · injection e with e1 _ _
    subst e1
    exact ⟨g, rfl, h.inK g rfl⟩
theorem Pg.at_ {K : Nat → Prop} {w : World} {g c n : Nat} {l : List Nd} (h : Pg K w (.slice (some ⟨g, 0, none⟩) n c) l) (hl : l.length = n) {k : Nat} {x : Nd} (hx : l[k]? = some x) :
    w.cell? ⟨g, k, none⟩ = some x.val ∧ w.frozen? ⟨g, k, none⟩ = false ∧ g < w.heap.size := by
  subst hl
  obtain ⟨_, g', o, e, hc⟩ := h.nodes k x hx
  injection e with e
  injection e with e1 e2 _
  subst e1; subst e2
  rw [Nat.zero_add] at hc
  refine ⟨hc, ?_, World.block_lt_of_cell? _ _ hc⟩
  obtain ⟨A', c', e, ⟨_, h0, _⟩ | ⟨g'', cur, rfl, hb, hg, _⟩⟩ := own_slice h.own
  · have := (List.getElem?_eq_some_iff.mp hx).1; omega
  · injection e with e1 _ _
    injection e1 with e1
    injection e1 with e1
    subst e1
    exact Blk.frozen (t := 26) (cs := cur) hg k
theorem Nd.shape (n : Nd) : n.val = .nilIface ∨ ∃ T v, n.val = .iface T v := by cases n <;> first | exact .inl rfl | exact .inr ⟨_, _, rfl⟩
theorem Nd.tick_right (regs : Int) (n j : Nat) (h : j + 1 < n) : Nd.tick.rightS regs n j = true := by
  have : inS ((j : Int) + 1) n = true := by simp [inS]; omega
  simp [Nd.rightS, Nd.fieldsS, Nd.uses, Nd.next, Nd.dst, Nd.bareS, this]
theorem Nd.ret_right (regs : Int) (n : Nat) (j : Int) : (Nd.ret (-1)).rightS regs n j = true := by
  simp [Nd.rightS, Nd.fieldsS, Nd.uses, Nd.next, Nd.dst, Nd.bareS]
/-- a right program is handed back -/
def TameAt (w : World) (e : Ending) (w' : World) : Prop :=
  ∃ (params regs : Int) (A : Option Addr) (c : Nat) (l : List Nd), e = .returned (.agg #[.int .i64 params, .int .i64 regs, .slice A l.length c]) ∧ Pg (fun k => w.heap.size ≤ k) w' (.slice A l.length c) l ∧ CheckP params regs l ∧
    l.length ≤ 41 ∧ 1 ≤ regs ∧ regs ≤ 14 ∧ 0 ≤ params ∧ params ≤ 4 ∧ Below w.heap.size w w'
set_option maxHeartbeats 16000000 in
set_option maxRecDepth 100000 in
theorem tame_c (A : Option Addr) (L c : Nat) (regs params : Int) (w : World) (hx : Raws w A L) (hbins : Bins w) :
    Calls Tryd.prog 21 #[.slice A L c, .int .i64 regs, .int .i64 params] w (TameAt w) := by
  have hb0 : Below w.heap.size w (w.alloc (.cells #[.int .i64 0, .int .i64 0, .slice none 0 0] 46)) := (Below.refl _ _).alloc (Nat.le_refl _) _
  have HPC := Lib.hid (prog_c A L c regs params (w.alloc (.cells #[.int .i64 0, .int .i64 0, .slice none 0 0] 46)) (hx.keep hb0) (hbins.keep hb0))
  have HB0 := Lib.hid hb0
  clear hb0 hx hbins
  have hmk := fun (n : Nat) (hn : n ≤ 41) (W : World) => run_make_row' (P := Tryd.prog) 44 26 .nilIface 16 Tryd.underlying44 info_node rfl .i64 .i64 n (by omega) (by omega) W
  go_enter Tryd.func21, Tryd.ntmps21
  go_wp2_with fail
  refine (HPC.out).mono ?_
  rintro e w1 ⟨pa, rg, PA, pc, l0, rfl, hpg, h40, hr1, hr14, hp0, hp4, hpr, hb1⟩
  have hln : (l0 ++ [Nd.ret (-1)]).length = l0.length + 1 := by simp
  have hlast : (l0 ++ [Nd.ret (-1)])[l0.length]? = some (Nd.ret (-1)) := by simp
  rw [hln] at hpg ⊢
  obtain ⟨R0, hR0⟩ : ∃ R0, R0 = l0 ++ [Nd.ret (-1)] := ⟨_, rfl⟩
  rw [← hR0] at hpg hln hlast
  obtain ⟨n, hn⟩ : ∃ n, n = l0.length + 1 := ⟨_, rfl⟩
  rw [← hn] at hpg hln ⊢
  obtain ⟨n1, hn1e⟩ : ∃ n1, n1 = l0.length := ⟨_, rfl⟩
  rw [← hn1e] at hlast h40 hn
  have hnn : (n : Int) - 1 = (n1 : Int) := by omega
  have hn1 : n1 < n := by omega
  have hn41 : n ≤ 41 := by omega
  have HN1 := Lib.hid hn
  clear hn
  clear hR0 h40 hn1e
  obtain ⟨g, rfl, hKg⟩ := hpg.head hln (by omega)
  obtain ⟨w0, hw0⟩ : ∃ w0, w0 = w1.alloc (.cells #[.int .i64 pa, .int .i64 rg, .slice (some ⟨g, 0, none⟩) n pc] 46) := ⟨_, rfl⟩
  have hs1 : w.heap.size + 1 ≤ w1.heap.size := by have := hb1.size; rw [World.size_alloc] at this; exact this
  have hpg0 : Pg (fun k => w.heap.size + 1 ≤ k ∧ k < w1.heap.size) w0 (.slice (some ⟨g, 0, none⟩) n pc) R0 := by
    rw [hw0]; exact (hpg.shift (fun k hk h => ⟨by rw [World.size_alloc] at h; exact h, hk⟩)).keep ((Below.refl _ _).alloc (Nat.le_refl _) _)
  have kr : Blk w0 w.heap.size 46 #[.int .i64 0, .int .i64 0, .slice none 0 0] := by
    rw [hw0]; exact ((Blk.new w _ _).only (S := fun _ => False) (Only.of_below hb1) id).alloc _
  have kp : Blk w0 w1.heap.size 46 #[.int .i64 pa, .int .i64 rg, .slice (some ⟨g, 0, none⟩) n pc] := by rw [hw0]; exact Blk.new w1 _ _
  have hbw : Below w.heap.size w w0 := by rw [hw0]; exact (HB0.out.trans (hb1.mono (by simp))).alloc (by omega) _
  have hsg : g < w1.heap.size := (hpg.at_ hln hlast).2.2
  have HL0 := Lib.hid hlast; have HLN := Lib.hid hln; have HPG := Lib.hid hpg0; have HR := Lib.hid kr; have HP := Lib.hid kp; have HB := Lib.hid hbw
  have hKg' : w.heap.size + 1 ≤ g := by have h := hKg; rw [World.size_alloc] at h; exact h
  clear hpg hpg0 kr kp hbw hln hlast hb1 HB0 hKg HPC
  go_wp2_with fail
  rw [← hw0]
  clear hw0
  generalize w1.heap.size = P at *
  go_loopw [8] (fun i wx => ∃ (k : Nat) (R : List Nd), k < n ∧ i = .int .i64 k ∧ R.length = n ∧ Pg (fun j => w.heap.size + 1 ≤ j ∧ j < P) wx (.slice (some ⟨g, 0, none⟩) n pc) R ∧
    (∀ (j : Nat) (x : Nd), j < k → R[j]? = some x → x.rightS rg n j = true) ∧ R[n1]? = some (.ret (-1)) ∧
    Blk wx w.heap.size 46 #[.int .i64 0, .int .i64 0, .slice none 0 0] ∧ Blk wx P 46 #[.int .i64 pa, .int .i64 rg, .slice (some ⟨g, 0, none⟩) n pc] ∧ Below w.heap.size w wx) (fun i _ => n - (intOf i).toNat)
  case atStart => exact ⟨0, R0, by omega, rfl, HLN.out, HPG.out, fun j x h => absurd h (Nat.not_lt_zero _), HL0.out, HR.out, HP.out, HB.out⟩
  case round =>
    obtain ⟨k, R, hk, rfl, hRl, hpg, hrt, hla, hr, hp, hb⟩ := hrel
    have HRL := Lib.hid hRl; have HPX := Lib.hid hpg; have HRT := Lib.hid hrt; have HLA := Lib.hid hla; have HRX := Lib.hid hr; have HPP := Lib.hid hp; have HBX := Lib.hid hb
    have p1 := hp.cell 1
    have p2 := hp.cell 2
    simp at p1 p2
    clear hRl hpg hrt hla hr hp hb HL0 HLN HPG HR HP HB
    have hsz : P < wr.heap.size := HPP.out.lt
    have hm41 := hmk n hn41
    go_upto_region 5 with (fail)
    go_cut [9] (fun s wx => ∃ G Q, s = .pointer (some ⟨Q, 0, none⟩) ∧ P < G ∧ P < Q ∧ G ≠ Q ∧ Pg (fun _ => True) wx (.slice (some ⟨G, 0, none⟩) n n) (List.replicate n .none) ∧
      Blk wx Q 46 #[.int .i64 0, .int .i64 rg, .slice (some ⟨G, 0, none⟩) n n] ∧ Below wr.heap.size wr wx)
    case first =>
      go_region
      all_goals (go_wp2_with fail; go_meet)
      all_goals first
        | exact ⟨wr.heap.size, wr.heap.size + 1, rfl, hsz, by omega, by omega, (Pg.make wr n (by unfold maxLen; omega) trivial).keep (((Below.refl _ _).alloc (Nat.le_refl _) _).drewn),
            by have := (Blk.new (wr.alloc (.cells (madeCells #[.nilIface] n) 26)) 46 #[.int .i64 0, .int .i64 rg, .slice (some ⟨wr.heap.size, 0, none⟩) n n]).drew; rw [World.size_alloc] at this; exact this,
            (((Below.refl _ _).alloc (Nat.le_refl _) _).alloc (by simp) _).drewn⟩
        | exact ⟨wr.heap.size + 1, wr.heap.size, rfl, by omega, hsz, by omega,
            by have := (Pg.make (K := fun _ => True) (wr.alloc (.cells #[.int .i64 0, .int .i64 rg, .slice (some ⟨wr.heap.size + 1, 0, none⟩) n n] 46)) n (by unfold maxLen; omega) trivial).keep ((Below.refl _ _).drewn); rw [World.size_alloc] at this; exact this,
            ((Blk.new wr 46 #[.int .i64 0, .int .i64 rg, .slice (some ⟨wr.heap.size + 1, 0, none⟩) n n]).alloc _).drew,
            (((Below.refl _ _).alloc (Nat.le_refl _) _).alloc (by simp) _).drewn⟩
    case rest =>
    obtain ⟨G, Q, rfl, hPG, hPQ, hGQ, hpq, hq, hbc⟩ := hcut
    have HPX1 := Lib.hid (HPX.out.keep hbc)
    have HRX1 := Lib.hid (HRX.out.only (S := fun _ => False) (Only.of_below hbc) id)
    have HPP1 := Lib.hid (HPP.out.only (S := fun _ => False) (Only.of_below hbc) id)
    have HBX1 := Lib.hid (HBX.out.trans (hbc.mono HBX.out.size))
    have HPQ := Lib.hid hpq; have HQ1 := Lib.hid hq
    have q2 := hq.cell 2
    simp at q2
    have hNP : w.heap.size < P := by omega
    clear hpq hq hbc p1 p2 hm41 hsz HPX HRX HPP HBX
    go_wp2_with fail
    go_loopw [10] (fun i wy => ∃ (m : Nat), m ≤ n ∧ i = .int .i64 m ∧ Pg (fun _ => True) wy (.slice (some ⟨G, 0, none⟩) n n) (List.replicate m .tick ++ List.replicate (n - m) .none) ∧ Only (fun j => j = G) wc wy) (fun i _ => n - (intOf i).toNat)
    case atStart => exact ⟨0, Nat.zero_le _, rfl, HPQ.out, Only.refl _ _⟩
    case round =>
      obtain ⟨m, hm, rfl, hpm, hO⟩ := hrel
      have HPM := Lib.hid hpm; have HOO := Lib.hid hO
      have q2 := (HQ1.out.only hO (fun e => hGQ e.symm)).cell 2
      simp at q2
      have hml : (List.replicate m Nd.tick ++ List.replicate (n - m) Nd.none).length = n := by simp; omega
      by_cases hlt : m < n
      · obtain ⟨cm, fm, _⟩ := hpm.at_ hml (k := m) (x := .none) (by rw [List.getElem?_append_right (by simp), List.length_replicate, Nat.sub_self, List.getElem?_replicate, if_pos (by omega)])
        clear hpm hO
        go_wp2_with fail
        go_roundw
        case rel =>
          refine ⟨m + 1, by omega, by go_num, ?_, HOO.out.setCell (p := ⟨G, m, none⟩) (.inl rfl) _⟩
          have := HPM.out.put' hml m .tick True.intro (fun hne => absurd rfl hne)
          rw [List.set_append_right _ _ (by simp)] at this
          obtain ⟨r, hr⟩ : ∃ r, n - m = r + 1 := ⟨n - m - 1, by omega⟩
          rw [hr, List.length_replicate, Nat.sub_self, List.replicate_succ, List.set_cons_zero] at this
          rw [List.replicate_succ', List.append_assoc, show n - (m + 1) = r by omega]
          exact this
        case measure => simp [intOf]; omega
      · have hmn : m = n := by omega
        have HPN : Hid (Pg (fun _ => True) wr (.slice (some ⟨G, 0, none⟩) n n) (List.replicate n .tick)) := by
          have h := hpm; rw [hmn, Nat.sub_self, List.replicate_zero, List.append_nil] at h; exact h
        have HPX := Lib.hid (HPX1.out.only hO (fun j hj e => by have e' : j = G := e; have := hj.2; omega))
        have HRX := Lib.hid (HRX1.out.only hO (by omega))
        have HPP := Lib.hid (HPP1.out.only hO (by omega))
        have HQQ := Lib.hid (HQ1.out.only hO (fun e => hGQ e.symm))
        have HBX := Lib.hid (HBX1.out.trans (hO.below (by have := HBX1.out.size; omega) (fun j hj => by have e' : j = G := hj; omega)))
        have p2 := HPP.out.cell 2
        simp at p2
        obtain ⟨x, hx⟩ : ∃ x, R[k]? = some x := ⟨R[k]'(by rw [HRL.out]; exact hk), List.getElem?_eq_getElem _⟩
        obtain ⟨cx, _, hgl⟩ := HPX.out.at_ HRL.out hx
        obtain ⟨ct, ft, hGl⟩ := HPN.out.at_ (by simp) (k := k) (x := .tick) (by rw [List.getElem?_replicate, if_pos hk])
        have hxok := HPX.out.ok x (List.mem_of_getElem? hx)
        have HXK := Lib.hid hxok
        have HXS : Hid (x.uses ≠ [] → ∀ a, x.sl = some a → True ∧ G ≠ a.block) := fun hne a ha => ⟨trivial, fun e => by have := (HPX.out.sep x (List.mem_of_getElem? hx) hne a ha).1.2; omega⟩
        have HX := Lib.hid hx
        have hki : (k : Int) < (n : Int) := by omega
        have hgG : g ≠ G := by omega
        have hlr : (List.replicate n Nd.tick).length = n := by simp
        clear hpm hO hm hml hlt HPM HOO HPX1 HRX1 HPP1 HQ1 HBX1 HPQ hmk hx hxok
        go_upto_region 10 with (fail)
        go_cut [] (fun wx => Pg (fun _ => True) wx (.slice (some ⟨G, 0, none⟩) n n) ((List.replicate n .tick).set k x) ∧ Only (fun j => j = G) wr wx)
        case first =>
          have HPD : Hid (Pg (fun _ => True) wr.drew (.slice (some ⟨G, 0, none⟩) n n) (List.replicate n .tick)) := HPN.out.keep ((Below.refl _ _).drewn)
          have hpt := HPD.out.put' hlr k x (HXK.out.keep ((Below.refl _ _).drewn)) HXS.out
          rcases x.shape with hxv | ⟨xT, xu, hxv⟩
          all_goals
            rw [hxv] at cx hpt
            have HPT := Lib.hid hpt
            clear hxv hpt
            go_region
            all_goals (go_wp2_with fail; go_meet)
            all_goals exact ⟨HPT.out, ((Only.refl (fun j => j = G) wr).setCell (p := ⟨G, k, none⟩) (.inl rfl) _).drew⟩
        case rest =>
        obtain ⟨hpq, hO⟩ := hcut
        have hl2 : ((List.replicate n Nd.tick).set k x).length = n := by simp
        obtain ⟨y, hy⟩ : ∃ y, ((List.replicate n Nd.tick).set k x)[n1]? = some y := ⟨_, List.getElem?_eq_getElem (by rw [hl2]; exact hn1)⟩
        obtain ⟨ct, ft, hGl⟩ := hpq.at_ hl2 hy
        have HPQ := Lib.hid hpq
        have HPX1 := Lib.hid (HPX.out.only hO (fun j hj e => by have e' : j = G := e; have := hj.2; omega))
        have HRX1 := Lib.hid (HRX.out.only hO (by omega))
        have HPP1 := Lib.hid (HPP.out.only hO (by omega))
        have HQ1 := Lib.hid (HQQ.out.only hO (fun e => hGQ e.symm))
        have HBX1 := Lib.hid (HBX.out.trans (hO.below (by have := HBX.out.size; omega) (fun j hj => by have e' : j = G := hj; omega)))
        have HOX := Lib.hid hO
        have q2 := HQ1.out.cell 2
        simp at q2
        clear hpq hO p2 HPX HRX HPP HQQ HBX HPN hy cx
        go_upto_region 12 with (fail)
        have hpq2 := HPQ.out.put' hl2 n1 (.ret (-1)) True.intro (fun hne => absurd rfl hne)
        obtain ⟨wq, hwq⟩ : ∃ wq, wq = wc.setCell ⟨G, n1, none⟩ (.iface 51 (.agg #[.int .i64 (-1)])) := ⟨_, rfl⟩
        have hOq : Only (fun j => j = G) wc wq := by rw [hwq]; exact (Only.refl (fun j => j = G) wc).setCell (p := ⟨G, n1, none⟩) (.inl rfl) _
        obtain ⟨Rq, hRq⟩ : ∃ Rq, Rq = ((List.replicate n Nd.tick).set k x).set n1 (.ret (-1)) := ⟨_, rfl⟩
        have hlq : Rq.length = n := by rw [hRq]; simp
        have HPN : Hid (Pg (fun _ => True) wq (.slice (some ⟨G, 0, none⟩) n n) Rq) := by rw [hwq, hRq]; exact hpq2
        have HPX := Lib.hid (HPX1.out.only hOq (fun j hj e => by have e' : j = G := e; have := hj.2; omega))
        have HRX := Lib.hid (HRX1.out.only hOq (by omega))
        have HPP := Lib.hid (HPP1.out.only hOq (by omega))
        have HQQ := Lib.hid (HQ1.out.only hOq (fun e => hGQ e.symm))
        have HBX := Lib.hid (HBX1.out.trans (hOq.below (by have := HBX1.out.size; omega) (fun j hj => by have e' : j = G := hj; omega)))
        have q0 := HQQ.out.cell 0
        have q1 := HQQ.out.cell 1
        have q2 := HQQ.out.cell 2
        have p2 := HPP.out.cell 2
        simp at q0 q1 q2 p2
        obtain ⟨cx, fx, hgl⟩ := HPX.out.at_ HRL.out HX.out
        have hxq : k < n1 → Rq[k]? = some x := fun h => by rw [hRq, List.getElem?_set_ne (by omega), List.getElem?_set_self (by simp; omega)]
        have HXQ := Lib.hid hxq
        have HLQ := Lib.hid hlq
        rw [← hwq]
        clear hpq2 hwq hOq hRq hxq hlq HPX1 HRX1 HPP1 HQ1 HBX1 HPQ HOX ct ft hl2 hlr
        by_cases hk1 : k = n1
        · have p0 := HPP.out.cell 0
          have p1 := HPP.out.cell 1
          have r0 := HRX.out.cell 0
          have r1 := HRX.out.cell 1
          have r2 := HRX.out.cell 2
          have f0 := HRX.out.frozen 0
          have f1 := HRX.out.frozen 1
          have f2 := HRX.out.frozen 2
          simp at p0 p1 r0 r1 r2
          have hkk : ((k : Int) == (n1 : Int)) = true := by simp [hk1]
          go_wp2_with fail
          refine bodyPost_ret (results_cell_row rfl _ _ w.heap.size 46 _ (0, 0) _ (by rfl) (((HRX.out.set 0 _).set 1 _).set 2 _) Tryd.underlying46 rfl (by rfl)) rfl ?_
          have hpf := ((((HPX.out.far (p := ⟨w.heap.size, 0, none⟩) (by intro h; have h1 : w.heap.size + 1 ≤ w.heap.size := h.1; omega) (.int .i64 pa)).far (p := ⟨w.heap.size, 1, none⟩) (by intro h; have h1 : w.heap.size + 1 ≤ w.heap.size := h.1; omega) (.int .i64 rg)).far (p := ⟨w.heap.size, 2, none⟩) (by intro h; have h1 : w.heap.size + 1 ≤ w.heap.size := h.1; omega) (.slice (some ⟨g, 0, none⟩) n pc))).shift (K' := fun j => w.heap.size ≤ j) (fun j _ h => by have := h.1; omega)
          have hbf := ((HBX.out.setCell (p := ⟨w.heap.size, 0, none⟩) (Nat.le_refl _) (.int .i64 pa)).setCell (p := ⟨w.heap.size, 1, none⟩) (Nat.le_refl _) (.int .i64 rg)).setCell (p := ⟨w.heap.size, 2, none⟩) (Nat.le_refl _) (.slice (some ⟨g, 0, none⟩) n pc)
          refine ⟨pa, rg, some ⟨g, 0, none⟩, pc, R, by rw [HRL.out]; rfl, by rw [HRL.out]; exact hpf, ⟨by rw [HRL.out]; omega, by rw [HRL.out]; omega, by simp [inS]; omega, by simp [inS]; omega, hpr, fun j y hy => ?_⟩, by rw [HRL.out]; omega, hr1, hr14, hp0, hp4, hbf⟩
          rw [HRL.out]
          by_cases hjk : j < k
          · exact HRT.out j y hjk hy
          · have hjn : j < n := by have := (List.getElem?_eq_some_iff.mp hy).1; rw [HRL.out] at this; exact this
            have hj1 : j = n1 := by have := HN1.out; omega
            subst hj1
            have h := HLA.out
            rw [hy] at h
            injection h with h
            subst h
            exact Nd.ret_right _ _ _
        · have hkk : ((k : Int) == (n1 : Int)) = false := by simp; omega
          have hPLA := plainProg_c 0 rg (some ⟨G, 0, none⟩) n Rq (by rw [HLQ.out]; omega) wq (by have h := HPN.out; rw [← HLQ.out] at h; exact h.nodes)
          rw [HLQ.out] at hPLA
          have HPLA := Lib.hid hPLA
          clear hPLA
          go_wp2_with fail
          refine (HPLA.out).mono ?_
          rintro e w2 ⟨RA, rc, rfl, hpn, hb2⟩
          have hCH := refCheck_c 0 rg RA rc Rq w2 hpn
          rw [HLQ.out] at hCH
          have HCH := Lib.hid hCH
          clear hCH hpn
          go_wp2_with fail
          refine (HCH.out).mono ?_
          rintro e w3 ⟨b, rfl, hbt, hb3⟩
          have hb23 : Below wq.heap.size wq w3 := hb2.trans (hb3.mono hb2.size)
          have HPX1 := Lib.hid (HPX.out.keep hb23)
          have HRX1 := Lib.hid (HRX.out.only (S := fun _ => False) (Only.of_below hb23) id)
          have HPP1 := Lib.hid (HPP.out.only (S := fun _ => False) (Only.of_below hb23) id)
          have HBX1 := Lib.hid (HBX.out.trans (hb23.mono HBX.out.size))
          obtain ⟨cx, fx, hgl⟩ := HPX1.out.at_ HRL.out HX.out
          have p2 := HPP1.out.cell 2
          simp at p2
          have HBT := Lib.hid hbt
          have hk1n : k + 1 < n := by have := HN1.out; omega
          have hk1l : k < n1 := by have := HN1.out; omega
          clear hbt hb2 hb3 hb23 HPX HRX HPP HQQ HBX HPN HPLA HCH q0 q1 q2
          cases b with
          | true =>
            go_wp2_with fail
            go_roundw
            case rel =>
              refine ⟨k + 1, R, hk1n, by go_num, HRL.out, HPX1.out, fun j y hj hy => ?_, HLA.out, HRX1.out, HPP1.out, HBX1.out⟩
              by_cases hjk : j < k
              · exact HRT.out j y hjk hy
              · have hjk' : j = k := by omega
                subst hjk'
                have h := HX.out
                rw [hy] at h
                injection h with h
                subst h
                have h := (HBT.out.mp (by first | trivial | rfl)).2.2.2.2.2 j y (HXQ.out hk1l)
                rw [HLQ.out] at h
                exact h
            case measure => simp [intOf]; omega
          | false =>
            go_wp2_with fail
            go_roundw
            case rel =>
              refine ⟨k + 1, R.set k .tick, hk1n, by go_num, by rw [List.length_set]; exact HRL.out, HPX1.out.put' HRL.out k .tick True.intro (fun hne => absurd rfl hne), fun j y hj hy => ?_, by rw [List.getElem?_set_ne (by omega)]; exact HLA.out,
                HRX1.out.far (p := ⟨g, k, none⟩) (by show w.heap.size ≠ g; omega) _, HPP1.out.far (p := ⟨g, k, none⟩) (by show P ≠ g; omega) _, HBX1.out.setCell (p := ⟨g, k, none⟩) (by show w.heap.size ≤ g; omega) _⟩
              by_cases hjk : j < k
              · rw [List.getElem?_set_ne (by omega)] at hy
                exact HRT.out j y hjk hy
              · have hjk' : j = k := by omega
                subst hjk'
                rw [List.getElem?_set_self (by rw [HRL.out]; omega)] at hy
                injection hy with hy
                subst hy
                exact Nd.tick_right _ _ _ hk1n
            case measure => simp [intOf]; omega
end Go.Proofs.YtilifniflpbbkaaDoor
