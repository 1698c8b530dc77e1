/- hand.Program: some nodes, and a Ret behind them. -/
import Derived.Test.YtilifniflpbbkaaDoorHm
import Derived.Test.YtilifniflpbbkaaDoorPg
import Derived.Test.YtilifniflpbbkaaDoorNArg
import Derived.Deep.RegionLaw
import Derived.BigRegion
namespace Go.Proofs.YtilifniflpbbkaaDoor
open Go.RowKit On
/-- raw nodes that a slice holds -/
def Raws (w : World) (A : Option Addr) (L : Nat) : Prop := ∀ k, k < L → ∃ (g o : Nat) (x0 x1 x2 x3 x4 x5 x6 x7 : Int) (XA : Option Addr) (xc : Nat) (xs : List Int), A = some ⟨g, o, none⟩ ∧ Ints .i64 w (.slice XA xs.length xc) xs ∧
  w.cell? ⟨g, o + k * 9, none⟩ = some (.int .i64 x0) ∧ w.cell? ⟨g, o + k * 9 + 1, none⟩ = some (.int .i64 x1) ∧ w.cell? ⟨g, o + k * 9 + 2, none⟩ = some (.int .i64 x2) ∧ w.cell? ⟨g, o + k * 9 + 3, none⟩ = some (.int .i64 x3) ∧ w.cell? ⟨g, o + k * 9 + 4, none⟩ = some (.int .i64 x4) ∧
  w.cell? ⟨g, o + k * 9 + 5, none⟩ = some (.int .i64 x5) ∧ w.cell? ⟨g, o + k * 9 + 6, none⟩ = some (.int .i64 x6) ∧ w.cell? ⟨g, o + k * 9 + 7, none⟩ = some (.int .i64 x7) ∧ w.cell? ⟨g, o + k * 9 + 8, none⟩ = some (.slice XA xs.length xc)
theorem Raws.keep {w w' : World} {A : Option Addr} {L : Nat} (h : Raws w A L) (hb : Below w.heap.size w w') : Raws w' A L := fun k hk => by
  obtain ⟨g, o, x0, x1, x2, x3, x4, x5, x6, x7, XA, xc, xs, h1, h2, c0, c1, c2, c3, c4, c5, c6, c7, c8⟩ := h k hk
  have key : ∀ (p : Addr) (v : Value), w.cell? p = some v → w'.cell? p = some v := fun p v hp => by
    rw [hb.cell (World.block_lt_of_cell? _ _ hp)]; exact hp
  exact ⟨g, o, x0, x1, x2, x3, x4, x5, x6, x7, XA, xc, xs, h1, h2.keep hb, key _ _ c0, key _ _ c1, key _ _ c2, key _ _ c3, key _ _ c4, key _ _ c5, key _ _ c6, key _ _ c7, key _ _ c8⟩
theorem arg_raws {w : World} {v : Value} (u : Vw.Arg Tryd.prog w 43 v) : ∃ A L c, v = .slice A L c ∧ L ≤ maxLen ∧ Raws w A L := by
  obtain ⟨A, n, c, rfl, h1, h2, _, h4⟩ := Vw.Arg.rows Tryd.underlying43 cells_rawnode (by omega) u
  refine ⟨A, n, c, rfl, by omega, fun k hk => ?_⟩
  cases A with
  | none => have := h4.none_ rfl; omega
  | some a =>
    obtain ⟨g, o, s⟩ := a
    obtain ⟨rfl, _, es, _, hR, hc⟩ := h4.cell g o s k rfl hk
    obtain ⟨x0, x1, x2, x3, x4, x5, x6, x7, XA, xc, xs, rfl, hI⟩ := viewed_rawnode hR
    exact ⟨g, o, x0, x1, x2, x3, x4, x5, x6, x7, XA, xc, xs, rfl, hI, hc 0 (by omega), hc 1 (by omega), hc 2 (by omega), hc 3 (by omega), hc 4 (by omega), hc 5 (by omega), hc 6 (by omega), hc 7 (by omega), hc 8 (by omega)⟩
theorem Nd.val_one (n : Nd) : n.val.oneCell' = true := by cases n <;> rfl
theorem Nd.okF.iface {N : Nat} {w : World} {n : Nd} (h : n.okF N w) : ∃ T v, n.val = .iface T v := by cases n <;> first | exact ⟨_, _, rfl⟩ | exact h.elim
/-- a program is handed back, of nodes in a new row -/
def ProgAt (w : World) (e : Ending) (w' : World) : Prop :=
  ∃ (params regs : Int) (A : Option Addr) (c : Nat) (l : List Nd), e = .returned (.agg #[.int .i64 params, .int .i64 regs, .slice A (l ++ [Nd.ret (-1)]).length c]) ∧ Pg (fun k => w.heap.size ≤ k) w' (.slice A (l ++ [Nd.ret (-1)]).length c) (l ++ [Nd.ret (-1)]) ∧
    l.length ≤ 40 ∧ 1 ≤ regs ∧ regs ≤ 14 ∧ 0 ≤ params ∧ params ≤ 4 ∧ params ≤ regs ∧ Below w.heap.size w w'
set_option maxHeartbeats 16000000 in
set_option maxRecDepth 100000 in
theorem prog_c (A : Option Addr) (L c : Nat) (regs params : Int) (w : World) (hx : Raws w A L) (hbins : Bins w) :
    Calls Tryd.prog 20 #[.slice A L c, .int .i64 regs, .int .i64 params] w (ProgAt w) := by
  obtain ⟨i0, hi0, hz0, hz1, hz2⟩ := info_parts1 info_node
  have HX := Lib.hid hx
  have HBI := Lib.hid hbins
  clear hx hbins
  obtain ⟨rq, hrq⟩ : ∃ rq, regs % 14 = rq := ⟨_, rfl⟩
  have hrq1 : 0 ≤ rq := by omega
  have hrq2 : rq < 14 := by omega
  have q1 : ∀ w, Calls Tryd.prog 8 #[.int .i64 regs, .int .i64 14] w fun e w' => e = .returned (.int .i64 rq) ∧ w' = w := fun w => (pickN regs 14 (by decide) (by decide) w).mono fun _ _ h => ⟨by rw [h.1, hrq], h.2.symm⟩
  obtain ⟨m, hm⟩ : ∃ m, (if 1 + rq + 1 < (5 : Int) then 1 + rq + 1 else 5) = m := ⟨_, rfl⟩
  have hm1 : 2 ≤ m := by rw [← hm]; split <;> omega
  have hm2 : m ≤ 5 := by rw [← hm]; split <;> omega
  have hm3 : m ≤ rq + 2 := by rw [← hm]; split <;> omega
  obtain ⟨pq, hpq⟩ : ∃ pq, params % m = pq := ⟨_, rfl⟩
  have hpq1 : 0 ≤ pq := by rw [← hpq]; exact Int.emod_nonneg _ (by omega)
  have hpq2 : pq < m := by rw [← hpq]; exact Int.emod_lt_of_pos _ (by omega)
  have q2 : ∀ w, Calls Tryd.prog 8 #[.int .i64 params, .int .i64 m] w fun e w' => e = .returned (.int .i64 pq) ∧ w' = w := fun w => (pickN params m (by omega) (by omega) w).mono fun _ _ h => ⟨by rw [h.1, hpq], h.2.symm⟩
  obtain ⟨cnt, hcnt⟩ : ∃ cnt : Nat, (if (40 : Int) < (L : Int) then 40 else (L : Int)) = cnt := ⟨min L 40, by split <;> omega⟩
  have hcL : cnt ≤ L := by split at hcnt <;> omega
  have hc40 : cnt ≤ 40 := by split at hcnt <;> omega
  clear hrq hpq
  obtain ⟨w0, hw0⟩ : ∃ w0, w0 = (w.alloc (.cells #[.int .i64 0, .int .i64 0, .slice none 0 0] 46)).alloc (.cells #[.int .i64 pq, .int .i64 (1 + rq), .slice none 0 0] 46) := ⟨_, rfl⟩
  have kr : Blk w0 w.heap.size 46 #[.int .i64 0, .int .i64 0, .slice none 0 0] := by rw [hw0]; exact (Blk.new w _ _).alloc _
  have ko : Blk w0 (w.heap.size + 1) 46 #[.int .i64 pq, .int .i64 (1 + rq), .slice none 0 0] := by
    have := Blk.new (w.alloc (.cells #[.int .i64 0, .int .i64 0, .slice none 0 0] 46)) 46 #[.int .i64 pq, .int .i64 (1 + rq), .slice none 0 0]
    rw [hw0]; simpa using this
  have hb0 : Below w.heap.size w w0 := by rw [hw0]; exact ((Below.refl _ _).alloc (Nat.le_refl _) _).alloc (by simp) _
  have HR := Lib.hid kr; have HO := Lib.hid ko; have HB := Lib.hid hb0
  clear kr ko hb0
  go_enter Tryd.func20, Tryd.ntmps20
  go_wp2_with fail
  refine (q1 _).mono ?_
  rintro e w' ⟨rfl, rfl⟩
  go_wp2_with fail
  refine (q2 _).mono ?_
  rintro e w' ⟨rfl, rfl⟩
  go_wp2_with fail
  rw [← hw0]
  clear hw0
  go_loopw [9] (fun i wx => ∃ (k : Nat) (R : List Nd) (RA : Option Addr) (rc : Nat), k ≤ cnt ∧ i = .int .i64 k ∧ R.length = k ∧ Pg (fun j => w.heap.size + 2 ≤ j) wx (.slice RA k rc) R ∧
    Blk wx w.heap.size 46 #[.int .i64 0, .int .i64 0, .slice none 0 0] ∧ Blk wx (w.heap.size + 1) 46 #[.int .i64 pq, .int .i64 (1 + rq), .slice RA k rc] ∧ Below w.heap.size w wx) (fun i _ => cnt - (intOf i).toNat)
  case atStart => exact ⟨0, [], none, 0, Nat.zero_le _, rfl, rfl, Pg.nil _ _, HR.out, HO.out, HB.out⟩
  case round =>
    obtain ⟨k, R, RA, rc, hk, rfl, hRl, hpg, hr, ho, hb⟩ := hrel
    have HRL := Lib.hid hRl; have HPG := Lib.hid hpg; have HRX := Lib.hid hr; have HOX := Lib.hid ho; have HBX := Lib.hid hb
    have o1 := ho.cell 1
    have o2 := ho.cell 2
    have f2 := ho.frozen 2
    simp at o1 o2
    clear hRl hpg hr ho hb HR HO HB
    by_cases hlt : k < cnt
    · obtain ⟨g, o, x0, x1, x2, x3, x4, x5, x6, x7, XA, xc, xs, rfl, hI, c0, c1, c2, c3, c4, c5, c6, c7, c8⟩ := (HX.out.keep HBX.out) k (by omega)
      have HND : Hid (Calls Tryd.prog 7 #[.agg #[.int .i64 x0, .int .i64 x1, .int .i64 x2, .int .i64 x3, .int .i64 x4, .int .i64 x5, .int .i64 x6, .int .i64 x7, .slice XA xs.length xc], .int .i64 (1 + rq), .int .i64 (cnt + 1)] wr.drew (NodeAt wr.drew)) :=
        hnode_c x0 x1 x2 x3 x4 x5 x6 x7 XA xc xs (1 + rq) (cnt + 1) (by omega) (by omega) (by omega) _ hI.drewn (HBI.out.keep HBX.out.drewn)
      have hkL : k < L := by omega
      clear hI
      generalize xs.length = xl at *
      have hsz : w.heap.size + 2 ≤ wr.heap.size := by have := HOX.out.lt; omega
      go_wp2_with fail
      go_region_law (first
        | (refine step_append_at _ (by rfl) (.tmp 32) (.tmp 41) _ (by rfl) 0 26 i0 _ 1 16 Tryd.underlying44 hi0 hz0 hz1 hz2 rfl (by omega) _ k (R.map Nd.val) (by rfl) hown3 (some ⟨w3.heap.size, 0, none⟩) 1 1 _ (by rfl) hsrc3 nofun (by unfold maxLen; omega) (by omega) (Nat.zero_le _) ?_
           intro A5 c5 w5 hown5 hg5 hat5
           have hO5 := ((Only.refl (fun j => w.heap.size + 2 ≤ j) w3).alloc (.cells #[.iface nT nv] 26)).grown hg5 (fun j hj => .inl (HPG.out.inK j hj))
           have ko5 := ko3.only hO5 (by omega)
           have o5 := ko5.cell 2
           have f5 := ko5.frozen 2
           simp at o5)
        | (go_simp; go_at_call 7; refine (HND.out).mono ?_; rintro e w3 ⟨n, rfl, hi3, hb3⟩
           obtain ⟨nT, nv, hnv⟩ := hi3.iface
           rw [hnv]
           have HNV := Lib.hid hnv
           clear hnv
           have hbr3 : Below wr.heap.size wr w3 := ⟨hb3.os, hb3.tape, hb3.output, hb3.size, hb3.block⟩
           have ko3 := HOX.out.only (S := fun _ => False) (Only.of_below hbr3) id
           have o2 := ko3.cell 2
           simp at o2
           have hlt3 : w.heap.size + 1 < w3.heap.size := by have := hbr3.size; omega
           have hpg3 := HPG.out.keep hbr3
           have hown3 := own_only (by have := hpg3.own; rw [HRL.out] at this; exact this) ((Only.refl (fun _ => False) w3).alloc (.cells #[.iface nT nv] 26)) (fun _ _ => id)
           have hsrc3 := Src.block w3 26 1 [.iface nT nv] rfl (by intro u hu; simp at hu; subst hu; rfl) (0, 0)))
      all_goals
        have hfr : n.uses ≠ [] → ∀ a, n.sl = some a → w.heap.size + 2 ≤ a.block ∧ (Value.slice RA k rc).ownBlock ≠ some a.block := by
          intro hne a ha
          have h1 : wr.heap.size ≤ a.block := hi3.fresh ha
          refine ⟨by omega, fun e => ?_⟩
          have h2 := (HPG.out.own.lt _ e).2
          omega
        have hpush := Pg.push hpg3 HRL.out ((Only.refl (fun _ => False) w3).alloc (.cells #[.iface nT nv] 26)) n hi3.ok hfr (by rw [HNV.out]; exact hown5) hg5 (by first | exact hat5 | (rw [World.size_alloc]; exact hat5)) (by simp; omega)
        have kr5 := (HRX.out.only (S := fun _ => False) (Only.of_below hbr3) id).only hO5 (by omega)
        have hb5 : Below w.heap.size w w5 := (HBX.out.trans (hbr3.mono HBX.out.size)).trans (hO5.below (by have := HBX.out.size; have := hbr3.size; omega) (fun j hj => by omega))
        have HPU := Lib.hid hpush; have HKR := Lib.hid kr5; have HKO := Lib.hid ko5; have HB5 := Lib.hid hb5
        clear hpush kr5 hb5 hfr hpg3 hown3 hown5 hg5 hat5 hO5 ko5 ko3 hi3 hb3 hsrc3
        go_wp2_with fail
        go_roundw
        case rel =>
          refine ⟨k + 1, R ++ [n], A5, c5, by omega, by go_num, by simp [HRL.out], HPU.out.far (p := ⟨w.heap.size + 1, 2, none⟩) (by show ¬ w.heap.size + 2 ≤ w.heap.size + 1; omega) _, ?_, HKO.out.set 2 _, HB5.out.setCell (p := ⟨w.heap.size + 1, 2, none⟩) (by show w.heap.size ≤ w.heap.size + 1; omega) _⟩
          exact HKR.out.far (p := ⟨w.heap.size + 1, 2, none⟩) (by show w.heap.size ≠ w.heap.size + 1; omega) _
        case measure => simp [intOf]; omega
    · have hkl : k = cnt := by omega
      subst hkl
      have r0 := HRX.out.cell 0
      simp at r0
      have hown := HPG.out.own
      rw [HRL.out] at hown
      have HOWN := Lib.hid hown
      have hsz : w.heap.size + 2 ≤ wr.heap.size := by have := HOX.out.lt; omega
      clear hown
      go_wp2_with (at_builtin; go_loud (refine wpList_append_at _ rfl (.tmp 45) (.tmp 48) _ rfl 0 26 i0 _ 1 16 Tryd.underlying44 hi0 hz0 hz1 hz2 rfl (by omega) _ k (R.map Nd.val) rfl (own_only HOWN.out ((Only.refl (fun _ => False) wr).alloc _) (fun _ _ => id)) (some ⟨wr.heap.size, 0, none⟩) 1 1 _ rfl (Src.block wr 26 1 [(Nd.ret (-1)).val] rfl (by intro u hu; simp at hu; subst hu; exact Nd.val_one _) (0, 0)) nofun (by unfold maxLen; omega) (by omega) (Nat.zero_le _) ?_))
      intro A5 c5 w5 hown5 hg5 hat5
      have hO5 := ((Only.refl (fun j => w.heap.size + 2 ≤ j) wr).alloc (.cells #[(Nd.ret (-1)).val] 26)).grown hg5 (fun j hj => .inl (HPG.out.inK j hj))
      have hpush := Pg.push HPG.out HRL.out ((Only.refl (fun _ => False) wr).alloc (.cells #[(Nd.ret (-1)).val] 26)) (Nd.ret (-1)) True.intro (fun hne => absurd rfl hne) hown5 hg5 (by first | exact hat5 | (rw [World.size_alloc]; exact hat5)) (by simp; omega)
      have ko5 := HOX.out.only hO5 (by omega)
      have kr5 := HRX.out.only hO5 (by omega)
      have hb5 : Below w.heap.size w w5 := HBX.out.trans (hO5.below (by have := HBX.out.size; omega) (fun j hj => by omega))
      have q0 := ko5.cell 0
      have q1' := ko5.cell 1
      have q2' := ko5.cell 2
      have e2 := ko5.frozen 2
      have t0 := kr5.cell 0
      have t1 := kr5.cell 1
      have t2 := kr5.cell 2
      have t3 := kr5.frozen 0
      have t4 := kr5.frozen 1
      have t5 := kr5.frozen 2
      simp at q0 q1' q2' t0 t1 t2
      have hfin := (((hpush.far (p := ⟨w.heap.size + 1, 2, none⟩) (by show ¬ w.heap.size + 2 ≤ w.heap.size + 1; omega) (.slice A5 (k + 1) c5)).far (p := ⟨w.heap.size, 0, none⟩) (by show ¬ w.heap.size + 2 ≤ w.heap.size; omega) (.int .i64 pq)).far (p := ⟨w.heap.size, 1, none⟩) (by show ¬ w.heap.size + 2 ≤ w.heap.size; omega) (.int .i64 (1 + rq))).far (p := ⟨w.heap.size, 2, none⟩) (by show ¬ w.heap.size + 2 ≤ w.heap.size; omega) (.slice A5 (k + 1) c5)
      have hbfin := (((hb5.setCell (p := ⟨w.heap.size + 1, 2, none⟩) (Nat.le_succ _) (.slice A5 (k + 1) c5)).setCell (p := ⟨w.heap.size, 0, none⟩) (Nat.le_refl _) (.int .i64 pq)).setCell (p := ⟨w.heap.size, 1, none⟩) (Nat.le_refl _) (.int .i64 (1 + rq))).setCell (p := ⟨w.heap.size, 2, none⟩) (Nat.le_refl _) (.slice A5 (k + 1) c5)
      have HFI := Lib.hid (hfin.shift (K' := fun j => w.heap.size ≤ j) (fun j _ h => by omega)); have HBF := Lib.hid hbfin
      have HKR := Lib.hid (kr5.far (p := ⟨w.heap.size + 1, 2, none⟩) (by show w.heap.size ≠ w.heap.size + 1; omega) (.slice A5 (k + 1) c5))
      clear hfin hbfin hpush ko5 kr5 hb5 hown5 hg5 hat5 hO5
      go_wp2_with fail
      refine bodyPost_ret (results_cell_row rfl _ _ w.heap.size 46 _ (0, 0) _ (by rfl) (((HKR.out.set 0 _).set 1 _).set 2 _) Tryd.underlying46 rfl (by rfl)) rfl ?_
      have hlen : (R ++ [Nd.ret (-1)]).length = k + 1 := by simp [HRL.out]
      exact ⟨pq, 1 + rq, A5, c5, R, by rw [hlen]; rfl, by rw [hlen]; exact HFI.out, by have := HRL.out; omega, by omega, by omega, by omega, by omega, by omega, HBF.out⟩
end Go.Proofs.YtilifniflpbbkaaDoor
