/- The reference's Eval, on programs that may be. PRINTED by genrev.py. -/
import Derived.Test.YtilifniflpbbkaaDoorEval
import Derived.Test.YtilifniflpbbkaaDoorPl
import Derived.Test.YtilifniflpbbkaaDoorRefOne
import Derived.Deep.CutBlock
import Derived.BigGuardPart
import Derived.Deep.QuietTactic
import Derived.BigQuiet
namespace Go.Proofs.YtilifniflpbbkaaDoor
open Go.RowKit On
theorem refPure2_c (n : Nd) (PA : Option Addr) (pc : Nat) (w : World) : Calls Tryd.prog 19 #[.agg #[.int .i64 n.pn.kind, .int .i64 n.pn.dst, .int .i64 n.pn.op, .int .i64 n.pn.n, .int .i64 n.pn.a, .int .i64 n.pn.b, .int .i64 n.pn.tgt, .slice PA n.uses.length pc]] w fun e w' => e = .returned (.bool n.pure) ∧ Below w.heap.size w w' := by
  have h := refPure_c n PA pc w
  unfold Pn.val at h
  rw [n.pn_args] at h
  exact h
theorem Regs.neT {B : Nat} {w : World} {v : Value} {xs : List Int} {b : Nat} {t : TypeId} {cs : Array Value} (h : Regs B w v xs) (k : Blk w b t cs) (hne : 21 ≠ t) : v.ownBlock ≠ some b := by
  intro he
  obtain ⟨A, c, rfl, ⟨rfl, _⟩ | ⟨g, cur, rfl, _, g1, _⟩⟩ := own_slice h
  · simp [Value.ownBlock] at he
  · simp [Value.ownBlock] at he
    exact g1.ne k hne he
theorem PNodes.at_ {w : World} {A : Option Addr} {l : List Nd} (h : PNodes w A l) {k : Nat} {n : Nd} (hk : l[k]? = some n) : ∃ g o PA pc, A = some ⟨g, o, none⟩ ∧ (Ints .i64 w (.slice PA n.uses.length pc) n.uses ∧ n.uses.length ≤ 8) ∧
    w.cell? ⟨g, o + k * 8, none⟩ = some (.int .i64 n.pn.kind) ∧ w.cell? ⟨g, o + k * 8 + 1, none⟩ = some (.int .i64 n.pn.dst) ∧ w.cell? ⟨g, o + k * 8 + 2, none⟩ = some (.int .i64 n.pn.op) ∧ w.cell? ⟨g, o + k * 8 + 3, none⟩ = some (.int .i64 n.pn.n) ∧
    w.cell? ⟨g, o + k * 8 + 4, none⟩ = some (.int .i64 n.pn.a) ∧ w.cell? ⟨g, o + k * 8 + 5, none⟩ = some (.int .i64 n.pn.b) ∧ w.cell? ⟨g, o + k * 8 + 6, none⟩ = some (.int .i64 n.pn.tgt) ∧ w.cell? ⟨g, o + k * 8 + 7, none⟩ = some (.slice PA n.uses.length pc) := h k n hk
theorem Ints.cells {q : IntKind} {w : World} {A : Option Addr} {n c : Nat} {xs : List Int} (h : Ints q w (.slice A n c) xs) (hne : xs ≠ []) : ∃ g o, A = some ⟨g, o, none⟩ ∧ ∀ k x, xs[k]? = some x → w.cell? ⟨g, o + k, none⟩ = some (.int q x) := by
  obtain ⟨A', c', e, _, hc⟩ := h
  injection e with e1 _ _
  subst e1
  cases xs with
  | nil => exact absurd rfl hne
  | cons y t =>
    obtain ⟨g, o, e', _⟩ := hc 0 y rfl
    refine ⟨g, o, e', fun k x hx => ?_⟩
    obtain ⟨g2, o2, e2, h2⟩ := hc k x hx
    rw [e'] at e2
    injection e2 with e2
    injection e2 with e3 e4 _
    subst e3; subst e4
    exact h2
set_option maxHeartbeats 16000000 in
set_option maxRecDepth 100000 in
theorem reval_c (params : Int) (A V : Option Addr) (c vc : Nat) (l : List Nd) (xs : List Int) (from_ most : Int) (hf : inS from_ l.length = true) (hm : most ≤ 100000) (w : World) (hl : PNodes w A l) (w0 : World) (hok : ∀ n ∈ l, n.ok w0)
    (hc : CheckP params xs.length l) (hv : Ints .i32 w (.slice V xs.length vc) xs) (hR : ∀ x ∈ xs, Wd.R x) :
    Calls Tryd.prog 26 #[.agg #[.int .i64 params, .int .i64 xs.length, .slice A l.length c], .slice V xs.length vc, .int .i64 from_, .int .i64 most] w (EvalAt (evalS l most.toNat (xs, from_, 0)) w) := by
  obtain ⟨i0, hi0, hz0, hz1, hz2⟩ := info_parts1 info_int32
  have HB0 : Hid (Below w.heap.size w (w.alloc (.cells #[.int .i64 params, .int .i64 xs.length, .slice A l.length c] 56))) := (Below.refl _ _).alloc (Nat.le_refl _) _
  have KP := Lib.hid (Blk.new w 56 #[.int .i64 params, .int .i64 xs.length, .slice A l.length c])
  have HC := Lib.hid hc
  have HL := Lib.hid hl
  have HOKS := Lib.hid hok
  have HV := Lib.hid (hv.keep HB0.out)
  have HVZ : Hid (V = none → vc = 0) := by
    obtain ⟨A', c', e, h0, _⟩ := hv
    injection e with e1 _ e3
    subst e1; subst e3
    exact h0
  have HR := Lib.hid hR
  have HXL : Hid (xs.length ≤ 40) := by
    have h := hc.2.2.1; unfold inS at h; simp at h; show _ ≤ _; omega
  have hl2 : l.length ≤ 250 := hc.2.1
  have HF := Lib.hid hf
  clear hc hl hv hR hf hok
  obtain ⟨nx, hnx⟩ : ∃ nx, xs.length = nx := ⟨_, rfl⟩
  have HNX := Lib.hid hnx
  have hown := World.ownsRow_made (size := 1) (e := 21) (base := w.heap.size) (w.alloc (.cells #[.int .i64 params, .int .i64 xs.length, .slice A l.length c] 56)) #[] 0 (by simp) (by unfold maxLen; omega) (by simp)
  have hsrc := (HV.out.keep ((Below.refl _ _).alloc (Nat.le_refl _) (.cells #[] 21))).src
  have hnx40 : nx ≤ 40 := by have := HXL.out; omega
  rw [World.size_alloc] at hown
  rw [hnx] at hown hsrc HB0 KP ⊢
  have HOWN := Lib.hid hown; have HSRC := Lib.hid hsrc
  clear hnx hown hsrc
  go_enter Tryd.func26, Tryd.ntmps26
  go_wp2_with (at_builtin; go_loud (refine wpList_append_at _ rfl (.tmp 17) (.tmp 18) _ rfl w.heap.size 21 i0 _ 1 4 Tryd.underlying59 hi0 hz0 hz1 hz2 rfl (by omega) _ 0 [] rfl HOWN.out V nx vc _ rfl HSRC.out HVZ.out (by unfold maxLen; omega) (by omega) (by simp; omega) ?_))
  intro A2 c2 w2 hown2 hg2 _
  have HR2 : Hid (Regs w.heap.size w2 (.slice A2 nx c2) xs) := by
    show World.ownsRow _ _ _ _ _ _ _
    rw [HNX.out]
    simpa only [Nat.zero_add, List.nil_append] using hown2
  have HO2 : Hid (Only (fun _ => False) (w.alloc (.cells #[.int .i64 params, .int .i64 nx, .slice A l.length c] 56)) w2) := by
    refine ((Only.refl _ _).alloc _).grown hg2 (fun k hk => .inr ?_)
    simp [Value.ownBlock] at hk
    simp
    omega
  have HB2 := Lib.hid (HB0.out.trans (HO2.out.below (by simp) (fun _ h => h.elim)))
  have KP2 := Lib.hid (KP.out.only HO2.out id)
  clear hown2 hg2 HOWN HSRC HB0 KP HO2
  try simp only [Nat.zero_add]
  go_wp2_with fail
  go_loopw [12, 13, 14] (fun s12 s13 s14 wx => ∃ (k : Nat) (ys : List Int) (a t : Int), (k : Int) ≤ 100000 ∧ s14 = .int .i64 k ∧ s13 = .int .i64 a ∧ s12 = .int .i64 t ∧ 0 ≤ t ∧ t ≤ k ∧ evalS l (most.toNat - k) (ys, a, t) = evalS l most.toNat (xs, from_, 0) ∧ inS a l.length = true ∧ ys.length = nx ∧ (∀ x ∈ ys, Wd.R x) ∧
    Regs w.heap.size wx (.slice A2 nx c2) ys ∧ Blk wx w.heap.size 56 #[.int .i64 params, .int .i64 nx, .slice A l.length c] ∧ Below w.heap.size w wx) (fun _ _ i _ => 100000 - (intOf i).toNat)
  case atStart => exact ⟨0, xs, from_, 0, by omega, rfl, rfl, rfl, by omega, by omega, rfl, HF.out, HNX.out, HR.out, HR2.out, KP2.out, HB2.out⟩
  case round =>
    clear HR2 KP2 HB2 HF HR
    obtain ⟨k, ys, a, t, hk, rfl, rfl, rfl, ht0, htk, hev, ha, hlen, hR, hr, hp, hb⟩ := hrel
    have HEV := Lib.hid hev; have HLEN := Lib.hid hlen; have HRY := Lib.hid hR; have HRG := Lib.hid hr; have HP := Lib.hid hp; have HB := Lib.hid hb
    have p2 := hp.cell 2
    simp at p2
    obtain ⟨a, rfl, hal⟩ := inS_nat ha
    obtain ⟨g, o, PA, pc, rfl, hint, c0, c1, c2', c3, c4, c5, c6, c7⟩ := (HL.out.keep hb).at_ (List.getElem?_eq_getElem hal)
    have HI := Lib.hid hint
    have HOK := Lib.hid (HOKS.out _ (List.getElem_mem hal))
    have HRS : Hid ((l[a]'hal).rightS nx l.length a = true) := by have := HC.out.2.2.2.2.2 a _ (List.getElem?_eq_getElem hal); rw [HNX.out] at this; exact this
    have HGD : Hid (l.getD a .none = l[a]'hal) := by show _ = _; rw [List.getD_eq_getElem?_getD, List.getElem?_eq_getElem hal]; rfl
    have HPU := Lib.hid (fun wq => refPure2_c (l[a]'hal) PA pc wq)
    clear hev ha hlen hR hr hp hb hint
    have hai : (a : Int) < (l.length : Int) := by omega
    by_cases hlt : (k : Int) < most
    · generalize l[a]'hal = n at *
      have HC0 := Lib.hid c0; have HC1 := Lib.hid c1; have HC2 := Lib.hid c2'; have HC3 := Lib.hid c3; have HC6 := Lib.hid c6; have HC7 := Lib.hid c7; have HC4 := Lib.hid c4; have HC5 := Lib.hid c5
      go_wp2_with fail
      refine (HPU.out _).mono ?_
      rintro e w1 ⟨rfl, hb1⟩
      have hO1 : Only (fun _ => False) wr w1 := Only.of_below hb1
      have HP1 := Lib.hid (HP.out.only hO1 id)
      have HRG1 := Lib.hid (HRG.out.only hO1 (fun _ _ => id))
      have HB1 := Lib.hid (HB.out.trans (hb1.mono HB.out.size))
      have key : ∀ (p : Addr) (v : Value), wr.cell? p = some v → w1.cell? p = some v := fun p v hp => by
        rw [hb1.cell (World.block_lt_of_cell? _ _ hp)]; exact hp
      clear c0 c1 c2' c3 c4 c5 c6 c7
      have c0 := key _ _ HC0.out; have c1 := key _ _ HC1.out; have c2' := key _ _ HC2.out; have c3 := key _ _ HC3.out; have c4 := key _ _ HC4.out; have c5 := key _ _ HC5.out; have c6 := key _ _ HC6.out; have c7 := key _ _ HC7.out
      have HI1 : Hid (Ints .i64 w1 (.slice PA n.uses.length pc) n.uses) := HI.out.1.keep hb1
      have p2 := HP1.out.cell 2
      simp at p2
      clear key hb1 hO1 HC0 HC1 HC2 HC3 HC4 HC5 HC6 HC7 HP HRG HB HI HPU
      cases hpn : n.pure
      · have HPN := Lib.hid hpn
        clear hpn
        go_wp2_with fail
        go_ret3
        have he : evalS l (most.toNat - k) (ys, (a : Int), t) = (ys, (a : Int), t) := by
          cases hq : most.toNat - k with
          | zero => rfl
          | succ q => unfold evalS; rw [show l.getD ((a : Int)).toNat .none = n from by rw [Int.toNat_natCast]; exact HGD.out, HPN.out]; rfl
        have hee := HEV.out
        rw [he] at hee
        rw [← hee]
        exact ⟨_, rfl, by rw [← HLEN.out] at HRG1; rw [← HLEN.out]; exact HRG1.out, HB1.out⟩
      · have HIN : Hid (inS (n.go ys a) l.length = true) := by
          have := HRS.out
          unfold Nd.rightS at this
          simp only [Bool.and_eq_true] at this
          exact Nd.go_in hpn this.1.2 ys
        have HNR : Hid (∀ x ∈ n.step ys, Wd.R x) := by
          have := HRS.out
          unfold Nd.rightS at this
          simp only [Bool.and_eq_true] at this
          exact Nd.step_R HOK.out this.1.1.1 HRY.out
        have HSL : Hid ((n.step ys).length = nx) := by show _ = _; rw [Nd.step_len]; exact HLEN.out
        have HNE : Hid (evalS l (most.toNat - (k + 1)) (n.step ys, n.go ys a, if n.isTick then t + 1 else t) = evalS l most.toNat (xs, from_, 0)) := by
          show _ = _
          rw [← HEV.out]
          have hq : most.toNat - k = (most.toNat - (k + 1)) + 1 := by omega
          rw [hq]
          conv => rhs; unfold evalS
          have hg : l.getD ((a : Int)).toNat .none = n := by rw [Int.toNat_natCast]; exact HGD.out
          rw [hg, if_pos hpn]
          unfold rnd
          rw [hg]
        obtain ⟨⟨⟨hf, hu⟩, hnext⟩, hd⟩ : ((n.fieldsS = true ∧ n.uses.all (fun r => inS r nx) = true) ∧ (n.next a).all (fun t => inS t (l.length : Int)) = true) ∧ (inS n.dst nx = true ∨ (n.dst == -1 && n.bareS) = true) := by
          have := HRS.out
          unfold Nd.rightS at this
          simpa only [Bool.and_eq_true, Bool.or_eq_true] using this
        have hok := HOK.out
        clear HGD HEV HRS HOK hnext
        have hal2 : (a : Int) < 100000 := by omega
        cases n <;> simp [Nd.pure] at hpn <;> simp only [Nd.fieldsS, Nd.uses, Nd.dst, Nd.bareS, List.all_cons, List.all_nil, Bool.and_true, Bool.and_eq_true, beq_iff_eq, Bool.false_eq_true, and_false, or_false] at hf hu hd <;> simp only [Nd.pn, Nd.uses, List.length_cons, List.length_nil, Nat.zero_add, Nat.reduceAdd] at c0 c1 c2' c3 c4 c5 c6 c7 HI1 <;> simp only [Nd.step, Nd.go, Nd.isTick, Bool.false_eq_true, if_false, if_true] at HIN HNR HSL HNE
        case const d nn =>
          have hid : inS d nx = true := by first | exact hd | (rcases hd with h | h; exact h; exact absurd h (by simp)) | (rcases hd with h | h; exact h; exact absurd h.2 (by simp))
          obtain ⟨hn1, hn2⟩ := hok
          clear hf hu hd
          obtain ⟨d, rfl, hd⟩ := inS_nat hid
          obtain ⟨gr, cap, hsl, hcp1, hcp2, hBg, cur, hgr, hcs, hcur⟩ := HRG1.out.at (k := d) (by rw [HLEN.out]; exact hd)
          injection hsl with hsl1 hsl2 hsl3
          subst hsl1; subst hsl3
          have rd : w1.cell? ⟨gr, d, none⟩ = some (.int .i32 (ys.getD d 0)) := by rw [hgr.cell, hcur d (by rw [HLEN.out]; exact hd)]
          have fd := hgr.frozen d
          have hgl : gr < w1.heap.size := hgr.lt
          simp only [Int.toNat_natCast] at HIN HNR HSL HNE
          generalize ys.getD d 0 = xd at *
          obtain ⟨wn, hwn⟩ : ∃ wn, wn = w1.alloc (.cells #[.int .i64 1, .int .i64 d, .int .i64 0, .int .i64 nn, .int .i64 0, .int .i64 0, .int .i64 0, .slice PA 0 pc] 30) := ⟨_, rfl⟩
          obtain ⟨X, hX⟩ : ∃ X, X = w1.heap.size := ⟨_, rfl⟩
          have kb : Blk wn X 30 #[.int .i64 1, .int .i64 d, .int .i64 0, .int .i64 nn, .int .i64 0, .int .i64 0, .int .i64 0, .slice PA 0 pc] := by rw [hwn, hX]; exact Blk.new _ _ _
          have hOn : Only (fun _ => False) w1 wn := by rw [hwn]; exact (Only.refl _ _).alloc _
          have HRD := Lib.hid (HRG1.out.only hOn (fun _ _ => id))
          have HPD := Lib.hid (HP1.out.only hOn id)
          have HBD := Lib.hid (HB1.out.trans (hOn.below HB1.out.size (fun _ h => h.elim)))
          have rd' : wn.cell? ⟨gr, d, none⟩ = some (.int .i32 xd) := by rw [hOn.cell (p := ⟨gr, d, none⟩) hgl id]; exact rd
          have fd' : wn.frozen? ⟨gr, d, none⟩ = false := by rw [hOn.frozen (p := ⟨gr, d, none⟩) hgl id]; exact fd
          have b1 := kb.cell 1
          have b3 := kb.cell 3
          simp at b1 b3
          clear rd fd hgr hcur hcs hBg hsl2 hOn kb HRG1 HP1 HB1 HI1
          go_upto_region 11 with (fail)
          rw [← hwn, ← hX]
          clear hwn hX c0 c1 c2' c3 c4 c5 c6 c7 p2 hgl
          go_wp2_with fail
          go_roundw
          case rel => exact ⟨k + 1, _, _, _, by omega, by go_num, rfl, rfl, by omega, by omega, HNE.out, HIN.out, HSL.out, HNR.out, by rw [← HLEN.out] at HRD ⊢; exact HRD.out.set nn, HPD.out.far (p := ⟨gr, d, none⟩) (fun e => HRD.out.neT HPD.out (by decide) (by show some gr = _; rw [e])) _, HBD.out.setCell (p := ⟨gr, d, none⟩) (HRD.out.base gr rfl) _⟩
          case measure => simp [intOf]; omega
        case move d ra =>
          have hid : inS d nx = true := by first | exact hd | (rcases hd with h | h; exact h; exact absurd h (by simp)) | (rcases hd with h | h; exact h; exact absurd h.2 (by simp))
          have hira : inS ra nx = true := by first | exact hu | (rcases hu with h | h; exact h; exact absurd h (by simp)) | (rcases hu with h | h; exact h; exact absurd h.2 (by simp))
          clear hd hu
          obtain ⟨d, rfl, hd⟩ := inS_nat hid
          obtain ⟨ra, rfl, hra⟩ := inS_nat hira
          obtain ⟨gr, cap, hsl, hcp1, hcp2, hBg, cur, hgr, hcs, hcur⟩ := HRG1.out.at (k := d) (by rw [HLEN.out]; exact hd)
          injection hsl with hsl1 hsl2 hsl3
          subst hsl1; subst hsl3
          obtain ⟨ga, oa, rfl, hia⟩ := HI1.out.cells (by simp)
          have s0 := hia 0 _ rfl
          have rd : w1.cell? ⟨gr, d, none⟩ = some (.int .i32 (ys.getD d 0)) := by rw [hgr.cell, hcur d (by rw [HLEN.out]; exact hd)]
          have rra : w1.cell? ⟨gr, ra, none⟩ = some (.int .i32 (ys.getD ra 0)) := by rw [hgr.cell, hcur ra (by rw [HLEN.out]; exact hra)]
          have fd := hgr.frozen d
          have hgl : gr < w1.heap.size := hgr.lt
          simp only [Int.toNat_natCast] at HIN HNR HSL HNE
          generalize ys.getD d 0 = xd at *
          generalize ys.getD ra 0 = xra at *
          obtain ⟨wn, hwn⟩ : ∃ wn, wn = w1.alloc (.cells #[.int .i64 2, .int .i64 d, .int .i64 0, .int .i64 0, .int .i64 0, .int .i64 0, .int .i64 0, .slice (some ⟨ga, oa, none⟩) 1 pc] 30) := ⟨_, rfl⟩
          obtain ⟨X, hX⟩ : ∃ X, X = w1.heap.size := ⟨_, rfl⟩
          have kb : Blk wn X 30 #[.int .i64 2, .int .i64 d, .int .i64 0, .int .i64 0, .int .i64 0, .int .i64 0, .int .i64 0, .slice (some ⟨ga, oa, none⟩) 1 pc] := by rw [hwn, hX]; exact Blk.new _ _ _
          have hOn : Only (fun _ => False) w1 wn := by rw [hwn]; exact (Only.refl _ _).alloc _
          have HRN := Lib.hid (HRG1.out.only hOn (fun _ _ => id))
          have HPN := Lib.hid (HP1.out.only hOn id)
          have HBN := Lib.hid (HB1.out.trans (hOn.below HB1.out.size (fun _ h => h.elim)))
          have rd' : wn.cell? ⟨gr, d, none⟩ = some (.int .i32 xd) := by rw [hOn.cell (p := ⟨gr, d, none⟩) hgl id]; exact rd
          have rra' : wn.cell? ⟨gr, ra, none⟩ = some (.int .i32 xra) := by rw [hOn.cell (p := ⟨gr, ra, none⟩) hgl id]; exact rra
          have s0' := (hOn.cell (World.block_lt_of_cell? _ _ s0) id).trans s0
          have fd' : wn.frozen? ⟨gr, d, none⟩ = false := by rw [hOn.frozen (p := ⟨gr, d, none⟩) hgl id]; exact fd
          have b1 := kb.cell 1
          have b2 := kb.cell 2
          have b3 := kb.cell 3
          have b7 := kb.cell 7
          simp at b1 b2 b3 b7 s0'
          clear rd rra fd hgr hcur hcs hBg hsl2 hOn kb HRG1 HP1 HB1 HI1 s0 hia
          have hgwn : gr < wn.heap.size := by have := hgl; rw [hwn, World.size_alloc]; omega
          go_wp2_with fail
          rw [← hwn, ← hX]
          clear hwn hX c0 c1 c2' c3 c4 c5 c6 c7 p2 hgl
          go_still_tail 10, (by kernel_rfl)
          change wpList _ _ _ _ _ wn.drew
          obtain ⟨wd, hwd⟩ : ∃ wd, wd = wn.drew := ⟨_, rfl⟩
          have ed : wd.cell? ⟨gr, d, none⟩ = some (.int .i32 xd) := by rw [hwd]; exact rd'
          have era : wd.cell? ⟨gr, ra, none⟩ = some (.int .i32 xra) := by rw [hwd]; exact rra'
          have fd2 : wd.frozen? ⟨gr, d, none⟩ = false := by rw [hwd]; exact fd'
          have d1 := b1
          have d2 := b2
          have d3 := b3
          have d7 := b7
          have HRD : Hid (Regs w.heap.size wd (.slice (some ⟨gr, 0, none⟩) nx c2) ys) := by rw [hwd]; exact HRN.out
          have HPD : Hid (Blk wd w.heap.size 56 #[.int .i64 params, .int .i64 nx, .slice (some ⟨g, o, none⟩) l.length c]) := by rw [hwd]; exact HPN.out
          have HBD : Hid (Below w.heap.size w wd) := by rw [hwd]; exact ⟨HBN.out.os, HBN.out.tape, HBN.out.output, HBN.out.size, HBN.out.block⟩
          rw [← hwd]
          clear hwd rd' rra' fd' b1 b2 b3 b7 d1 d2 d3 d7 HRN HPN HBN s0'
          go_wp2_with fail
          go_roundw
          case rel => exact ⟨k + 1, _, _, _, by omega, by go_num, rfl, rfl, by omega, by omega, HNE.out, HIN.out, HSL.out, HNR.out, by rw [← HLEN.out] at HRD ⊢; exact HRD.out.set xra, HPD.out.far (p := ⟨gr, d, none⟩) (fun e => HRD.out.neT HPD.out (by decide) (by show some gr = _; rw [e])) _, HBD.out.setCell (p := ⟨gr, d, none⟩) (HRD.out.base gr rfl) _⟩
          case measure => simp [intOf]; omega
        case bin op d ra rb =>
          have hid : inS d nx = true := by first | exact hd | (rcases hd with h | h; exact h; exact absurd h (by simp)) | (rcases hd with h | h; exact h; exact absurd h.2 (by simp))
          have hira : inS ra nx = true := by first | exact hu.1 | (rcases hu.1 with h | h; exact h; exact absurd h (by simp)) | (rcases hu.1 with h | h; exact h; exact absurd h.2 (by simp))
          have hirb : inS rb nx = true := by first | exact hu.2 | (rcases hu.2 with h | h; exact h; exact absurd h (by simp)) | (rcases hu.2 with h | h; exact h; exact absurd h.2 (by simp))
          clear hd hu
          obtain ⟨d, rfl, hd⟩ := inS_nat hid
          obtain ⟨ra, rfl, hra⟩ := inS_nat hira
          obtain ⟨rb, rfl, hrb⟩ := inS_nat hirb
          obtain ⟨gr, cap, hsl, hcp1, hcp2, hBg, cur, hgr, hcs, hcur⟩ := HRG1.out.at (k := d) (by rw [HLEN.out]; exact hd)
          injection hsl with hsl1 hsl2 hsl3
          subst hsl1; subst hsl3
          obtain ⟨ga, oa, rfl, hia⟩ := HI1.out.cells (by simp)
          have s0 := hia 0 _ rfl
          have s1 := hia 1 _ rfl
          have rd : w1.cell? ⟨gr, d, none⟩ = some (.int .i32 (ys.getD d 0)) := by rw [hgr.cell, hcur d (by rw [HLEN.out]; exact hd)]
          have rra : w1.cell? ⟨gr, ra, none⟩ = some (.int .i32 (ys.getD ra 0)) := by rw [hgr.cell, hcur ra (by rw [HLEN.out]; exact hra)]
          have rrb : w1.cell? ⟨gr, rb, none⟩ = some (.int .i32 (ys.getD rb 0)) := by rw [hgr.cell, hcur rb (by rw [HLEN.out]; exact hrb)]
          have fd := hgr.frozen d
          have hgl : gr < w1.heap.size := hgr.lt
          have Rra : Wd.R (ys.getD ra 0) := getD_R HRY.out _
          have Rrb : Wd.R (ys.getD rb 0) := getD_R HRY.out _
          have q1 := fun w => (refDo_c op _ _ hf Rra Rrb w).mono (R' := fun e w' => e = .returned (.int .i32 (Wd.ask op (ys.getD ra 0) (ys.getD rb 0))) ∧ w' = w) (fun _ _ ⟨h1, h2⟩ => ⟨h1, h2.symm⟩)
          simp only [Int.toNat_natCast] at HIN HNR HSL HNE
          generalize ys.getD d 0 = xd at *
          generalize ys.getD ra 0 = xra at *
          generalize ys.getD rb 0 = xrb at *
          generalize Wd.ask op xra xrb = rr at *
          obtain ⟨wn, hwn⟩ : ∃ wn, wn = w1.alloc (.cells #[.int .i64 3, .int .i64 d, .int .i64 op, .int .i64 0, .int .i64 0, .int .i64 0, .int .i64 0, .slice (some ⟨ga, oa, none⟩) 2 pc] 30) := ⟨_, rfl⟩
          obtain ⟨X, hX⟩ : ∃ X, X = w1.heap.size := ⟨_, rfl⟩
          have kb : Blk wn X 30 #[.int .i64 3, .int .i64 d, .int .i64 op, .int .i64 0, .int .i64 0, .int .i64 0, .int .i64 0, .slice (some ⟨ga, oa, none⟩) 2 pc] := by rw [hwn, hX]; exact Blk.new _ _ _
          have hOn : Only (fun _ => False) w1 wn := by rw [hwn]; exact (Only.refl _ _).alloc _
          have HRN := Lib.hid (HRG1.out.only hOn (fun _ _ => id))
          have HPN := Lib.hid (HP1.out.only hOn id)
          have HBN := Lib.hid (HB1.out.trans (hOn.below HB1.out.size (fun _ h => h.elim)))
          have rd' : wn.cell? ⟨gr, d, none⟩ = some (.int .i32 xd) := by rw [hOn.cell (p := ⟨gr, d, none⟩) hgl id]; exact rd
          have rra' : wn.cell? ⟨gr, ra, none⟩ = some (.int .i32 xra) := by rw [hOn.cell (p := ⟨gr, ra, none⟩) hgl id]; exact rra
          have rrb' : wn.cell? ⟨gr, rb, none⟩ = some (.int .i32 xrb) := by rw [hOn.cell (p := ⟨gr, rb, none⟩) hgl id]; exact rrb
          have s0' := (hOn.cell (World.block_lt_of_cell? _ _ s0) id).trans s0
          have s1' := (hOn.cell (World.block_lt_of_cell? _ _ s1) id).trans s1
          have fd' : wn.frozen? ⟨gr, d, none⟩ = false := by rw [hOn.frozen (p := ⟨gr, d, none⟩) hgl id]; exact fd
          have b1 := kb.cell 1
          have b2 := kb.cell 2
          have b3 := kb.cell 3
          have b7 := kb.cell 7
          simp at b1 b2 b3 b7 s0' s1'
          clear rd rra rrb fd hgr hcur hcs hBg hsl2 hOn kb HRG1 HP1 HB1 HI1 s0 s1 hia Rra Rrb
          have hgwn : gr < wn.heap.size := by have := hgl; rw [hwn, World.size_alloc]; omega
          go_wp2_with fail
          rw [← hwn, ← hX]
          clear hwn hX c0 c1 c2' c3 c4 c5 c6 c7 p2 hgl
          go_still_tail 20, (by kernel_rfl)
          still_call (q1 _)
          refine wpStill_nil ?_
          change wpList _ _ _ _ _ wn.drew
          obtain ⟨wd, hwd⟩ : ∃ wd, wd = wn.drew := ⟨_, rfl⟩
          have ed : wd.cell? ⟨gr, d, none⟩ = some (.int .i32 xd) := by rw [hwd]; exact rd'
          have era : wd.cell? ⟨gr, ra, none⟩ = some (.int .i32 xra) := by rw [hwd]; exact rra'
          have erb : wd.cell? ⟨gr, rb, none⟩ = some (.int .i32 xrb) := by rw [hwd]; exact rrb'
          have fd2 : wd.frozen? ⟨gr, d, none⟩ = false := by rw [hwd]; exact fd'
          have d1 := b1
          have d2 := b2
          have d3 := b3
          have d7 := b7
          have HRD : Hid (Regs w.heap.size wd (.slice (some ⟨gr, 0, none⟩) nx c2) ys) := by rw [hwd]; exact HRN.out
          have HPD : Hid (Blk wd w.heap.size 56 #[.int .i64 params, .int .i64 nx, .slice (some ⟨g, o, none⟩) l.length c]) := by rw [hwd]; exact HPN.out
          have HBD : Hid (Below w.heap.size w wd) := by rw [hwd]; exact ⟨HBN.out.os, HBN.out.tape, HBN.out.output, HBN.out.size, HBN.out.block⟩
          rw [← hwd]
          clear hwd rd' rra' rrb' fd' b1 b2 b3 b7 d1 d2 d3 d7 HRN HPN HBN s0' s1'
          go_wp2_with fail
          go_roundw
          case rel => exact ⟨k + 1, _, _, _, by omega, by go_num, rfl, rfl, by omega, by omega, HNE.out, HIN.out, HSL.out, HNR.out, by rw [← HLEN.out] at HRD ⊢; exact HRD.out.set rr, HPD.out.far (p := ⟨gr, d, none⟩) (fun e => HRD.out.neT HPD.out (by decide) (by show some gr = _; rw [e])) _, HBD.out.setCell (p := ⟨gr, d, none⟩) (HRD.out.base gr rfl) _⟩
          case measure => simp [intOf]; omega
        case un op d ra =>
          have hid : inS d nx = true := by first | exact hd | (rcases hd with h | h; exact h; exact absurd h (by simp)) | (rcases hd with h | h; exact h; exact absurd h.2 (by simp))
          have hira : inS ra nx = true := by first | exact hu | (rcases hu with h | h; exact h; exact absurd h (by simp)) | (rcases hu with h | h; exact h; exact absurd h.2 (by simp))
          clear hd hu
          obtain ⟨d, rfl, hd⟩ := inS_nat hid
          obtain ⟨ra, rfl, hra⟩ := inS_nat hira
          obtain ⟨gr, cap, hsl, hcp1, hcp2, hBg, cur, hgr, hcs, hcur⟩ := HRG1.out.at (k := d) (by rw [HLEN.out]; exact hd)
          injection hsl with hsl1 hsl2 hsl3
          subst hsl1; subst hsl3
          obtain ⟨ga, oa, rfl, hia⟩ := HI1.out.cells (by simp)
          have s0 := hia 0 _ rfl
          have rd : w1.cell? ⟨gr, d, none⟩ = some (.int .i32 (ys.getD d 0)) := by rw [hgr.cell, hcur d (by rw [HLEN.out]; exact hd)]
          have rra : w1.cell? ⟨gr, ra, none⟩ = some (.int .i32 (ys.getD ra 0)) := by rw [hgr.cell, hcur ra (by rw [HLEN.out]; exact hra)]
          have fd := hgr.frozen d
          have hgl : gr < w1.heap.size := hgr.lt
          have Rra : Wd.R (ys.getD ra 0) := getD_R HRY.out _
          have q1 := fun w => (refOne_c op _ hf w).mono (R' := fun e w' => e = .returned (.int .i32 (oneS op (ys.getD ra 0))) ∧ w' = w) (fun _ _ ⟨h1, h2⟩ => ⟨h1, h2.symm⟩)
          simp only [Int.toNat_natCast] at HIN HNR HSL HNE
          generalize ys.getD d 0 = xd at *
          generalize ys.getD ra 0 = xra at *
          generalize oneS op xra = rr at *
          obtain ⟨wn, hwn⟩ : ∃ wn, wn = w1.alloc (.cells #[.int .i64 4, .int .i64 d, .int .i64 op, .int .i64 0, .int .i64 0, .int .i64 0, .int .i64 0, .slice (some ⟨ga, oa, none⟩) 1 pc] 30) := ⟨_, rfl⟩
          obtain ⟨X, hX⟩ : ∃ X, X = w1.heap.size := ⟨_, rfl⟩
          have kb : Blk wn X 30 #[.int .i64 4, .int .i64 d, .int .i64 op, .int .i64 0, .int .i64 0, .int .i64 0, .int .i64 0, .slice (some ⟨ga, oa, none⟩) 1 pc] := by rw [hwn, hX]; exact Blk.new _ _ _
          have hOn : Only (fun _ => False) w1 wn := by rw [hwn]; exact (Only.refl _ _).alloc _
          have HRN := Lib.hid (HRG1.out.only hOn (fun _ _ => id))
          have HPN := Lib.hid (HP1.out.only hOn id)
          have HBN := Lib.hid (HB1.out.trans (hOn.below HB1.out.size (fun _ h => h.elim)))
          have rd' : wn.cell? ⟨gr, d, none⟩ = some (.int .i32 xd) := by rw [hOn.cell (p := ⟨gr, d, none⟩) hgl id]; exact rd
          have rra' : wn.cell? ⟨gr, ra, none⟩ = some (.int .i32 xra) := by rw [hOn.cell (p := ⟨gr, ra, none⟩) hgl id]; exact rra
          have s0' := (hOn.cell (World.block_lt_of_cell? _ _ s0) id).trans s0
          have fd' : wn.frozen? ⟨gr, d, none⟩ = false := by rw [hOn.frozen (p := ⟨gr, d, none⟩) hgl id]; exact fd
          have b1 := kb.cell 1
          have b2 := kb.cell 2
          have b3 := kb.cell 3
          have b7 := kb.cell 7
          simp at b1 b2 b3 b7 s0'
          clear rd rra fd hgr hcur hcs hBg hsl2 hOn kb HRG1 HP1 HB1 HI1 s0 hia Rra
          have hgwn : gr < wn.heap.size := by have := hgl; rw [hwn, World.size_alloc]; omega
          go_wp2_with fail
          rw [← hwn, ← hX]
          clear hwn hX c0 c1 c2' c3 c4 c5 c6 c7 p2 hgl
          go_still_tail 13, (by kernel_rfl)
          still_call (q1 _)
          refine wpStill_nil ?_
          change wpList _ _ _ _ _ wn.drew
          obtain ⟨wd, hwd⟩ : ∃ wd, wd = wn.drew := ⟨_, rfl⟩
          have ed : wd.cell? ⟨gr, d, none⟩ = some (.int .i32 xd) := by rw [hwd]; exact rd'
          have era : wd.cell? ⟨gr, ra, none⟩ = some (.int .i32 xra) := by rw [hwd]; exact rra'
          have fd2 : wd.frozen? ⟨gr, d, none⟩ = false := by rw [hwd]; exact fd'
          have d1 := b1
          have d2 := b2
          have d3 := b3
          have d7 := b7
          have HRD : Hid (Regs w.heap.size wd (.slice (some ⟨gr, 0, none⟩) nx c2) ys) := by rw [hwd]; exact HRN.out
          have HPD : Hid (Blk wd w.heap.size 56 #[.int .i64 params, .int .i64 nx, .slice (some ⟨g, o, none⟩) l.length c]) := by rw [hwd]; exact HPN.out
          have HBD : Hid (Below w.heap.size w wd) := by rw [hwd]; exact ⟨HBN.out.os, HBN.out.tape, HBN.out.output, HBN.out.size, HBN.out.block⟩
          rw [← hwd]
          clear hwd rd' rra' fd' b1 b2 b3 b7 d1 d2 d3 d7 HRN HPN HBN s0'
          go_wp2_with fail
          go_roundw
          case rel => exact ⟨k + 1, _, _, _, by omega, by go_num, rfl, rfl, by omega, by omega, HNE.out, HIN.out, HSL.out, HNR.out, by rw [← HLEN.out] at HRD ⊢; exact HRD.out.set rr, HPD.out.far (p := ⟨gr, d, none⟩) (fun e => HRD.out.neT HPD.out (by decide) (by show some gr = _; rw [e])) _, HBD.out.setCell (p := ⟨gr, d, none⟩) (HRD.out.base gr rfl) _⟩
          case measure => simp [intOf]; omega
        case choose d rc ra rb =>
          have hid : inS d nx = true := by first | exact hd | (rcases hd with h | h; exact h; exact absurd h (by simp)) | (rcases hd with h | h; exact h; exact absurd h.2 (by simp))
          have hirc : inS rc nx = true := by first | exact hu.1 | (rcases hu.1 with h | h; exact h; exact absurd h (by simp)) | (rcases hu.1 with h | h; exact h; exact absurd h.2 (by simp))
          have hira : inS ra nx = true := by first | exact hu.2.1 | (rcases hu.2.1 with h | h; exact h; exact absurd h (by simp)) | (rcases hu.2.1 with h | h; exact h; exact absurd h.2 (by simp))
          have hirb : inS rb nx = true := by first | exact hu.2.2 | (rcases hu.2.2 with h | h; exact h; exact absurd h (by simp)) | (rcases hu.2.2 with h | h; exact h; exact absurd h.2 (by simp))
          clear hd hu
          obtain ⟨d, rfl, hd⟩ := inS_nat hid
          obtain ⟨rc, rfl, hrc⟩ := inS_nat hirc
          obtain ⟨ra, rfl, hra⟩ := inS_nat hira
          obtain ⟨rb, rfl, hrb⟩ := inS_nat hirb
          obtain ⟨gr, cap, hsl, hcp1, hcp2, hBg, cur, hgr, hcs, hcur⟩ := HRG1.out.at (k := d) (by rw [HLEN.out]; exact hd)
          injection hsl with hsl1 hsl2 hsl3
          subst hsl1; subst hsl3
          obtain ⟨ga, oa, rfl, hia⟩ := HI1.out.cells (by simp)
          have s0 := hia 0 _ rfl
          have s1 := hia 1 _ rfl
          have s2 := hia 2 _ rfl
          have rd : w1.cell? ⟨gr, d, none⟩ = some (.int .i32 (ys.getD d 0)) := by rw [hgr.cell, hcur d (by rw [HLEN.out]; exact hd)]
          have rrc : w1.cell? ⟨gr, rc, none⟩ = some (.int .i32 (ys.getD rc 0)) := by rw [hgr.cell, hcur rc (by rw [HLEN.out]; exact hrc)]
          have rra : w1.cell? ⟨gr, ra, none⟩ = some (.int .i32 (ys.getD ra 0)) := by rw [hgr.cell, hcur ra (by rw [HLEN.out]; exact hra)]
          have rrb : w1.cell? ⟨gr, rb, none⟩ = some (.int .i32 (ys.getD rb 0)) := by rw [hgr.cell, hcur rb (by rw [HLEN.out]; exact hrb)]
          have fd := hgr.frozen d
          have hgl : gr < w1.heap.size := hgr.lt
          have Rrc : Wd.R (ys.getD rc 0) := getD_R HRY.out _
          have Rra : Wd.R (ys.getD ra 0) := getD_R HRY.out _
          have Rrb : Wd.R (ys.getD rb 0) := getD_R HRY.out _
          have q1 := fun w => (rpick_c (ys.getD rc 0) (ys.getD ra 0) (ys.getD rb 0) w).mono (R' := fun e w' => e = .returned (.int .i32 (Wd.choose (ys.getD rc 0) (ys.getD ra 0) (ys.getD rb 0))) ∧ w' = w) (fun _ _ ⟨h1, h2⟩ => ⟨h1, h2.symm⟩)
          simp only [Int.toNat_natCast] at HIN HNR HSL HNE
          generalize ys.getD d 0 = xd at *
          generalize ys.getD rc 0 = xrc at *
          generalize ys.getD ra 0 = xra at *
          generalize ys.getD rb 0 = xrb at *
          generalize Wd.choose xrc xra xrb = rr at *
          obtain ⟨wn, hwn⟩ : ∃ wn, wn = w1.alloc (.cells #[.int .i64 5, .int .i64 d, .int .i64 0, .int .i64 0, .int .i64 0, .int .i64 0, .int .i64 0, .slice (some ⟨ga, oa, none⟩) 3 pc] 30) := ⟨_, rfl⟩
          obtain ⟨X, hX⟩ : ∃ X, X = w1.heap.size := ⟨_, rfl⟩
          have kb : Blk wn X 30 #[.int .i64 5, .int .i64 d, .int .i64 0, .int .i64 0, .int .i64 0, .int .i64 0, .int .i64 0, .slice (some ⟨ga, oa, none⟩) 3 pc] := by rw [hwn, hX]; exact Blk.new _ _ _
          have hOn : Only (fun _ => False) w1 wn := by rw [hwn]; exact (Only.refl _ _).alloc _
          have HRN := Lib.hid (HRG1.out.only hOn (fun _ _ => id))
          have HPN := Lib.hid (HP1.out.only hOn id)
          have HBN := Lib.hid (HB1.out.trans (hOn.below HB1.out.size (fun _ h => h.elim)))
          have rd' : wn.cell? ⟨gr, d, none⟩ = some (.int .i32 xd) := by rw [hOn.cell (p := ⟨gr, d, none⟩) hgl id]; exact rd
          have rrc' : wn.cell? ⟨gr, rc, none⟩ = some (.int .i32 xrc) := by rw [hOn.cell (p := ⟨gr, rc, none⟩) hgl id]; exact rrc
          have rra' : wn.cell? ⟨gr, ra, none⟩ = some (.int .i32 xra) := by rw [hOn.cell (p := ⟨gr, ra, none⟩) hgl id]; exact rra
          have rrb' : wn.cell? ⟨gr, rb, none⟩ = some (.int .i32 xrb) := by rw [hOn.cell (p := ⟨gr, rb, none⟩) hgl id]; exact rrb
          have s0' := (hOn.cell (World.block_lt_of_cell? _ _ s0) id).trans s0
          have s1' := (hOn.cell (World.block_lt_of_cell? _ _ s1) id).trans s1
          have s2' := (hOn.cell (World.block_lt_of_cell? _ _ s2) id).trans s2
          have fd' : wn.frozen? ⟨gr, d, none⟩ = false := by rw [hOn.frozen (p := ⟨gr, d, none⟩) hgl id]; exact fd
          have b1 := kb.cell 1
          have b2 := kb.cell 2
          have b3 := kb.cell 3
          have b7 := kb.cell 7
          simp at b1 b2 b3 b7 s0' s1' s2'
          clear rd rrc rra rrb fd hgr hcur hcs hBg hsl2 hOn kb HRG1 HP1 HB1 HI1 s0 s1 s2 hia Rrc Rra Rrb
          have hgwn : gr < wn.heap.size := by have := hgl; rw [hwn, World.size_alloc]; omega
          go_wp2_with fail
          rw [← hwn, ← hX]
          clear hwn hX c0 c1 c2' c3 c4 c5 c6 c7 p2 hgl
          go_still_tail 25, (by kernel_rfl)
          still_call (q1 _)
          refine wpStill_nil ?_
          change wpList _ _ _ _ _ wn.drew
          obtain ⟨wd, hwd⟩ : ∃ wd, wd = wn.drew := ⟨_, rfl⟩
          have ed : wd.cell? ⟨gr, d, none⟩ = some (.int .i32 xd) := by rw [hwd]; exact rd'
          have erc : wd.cell? ⟨gr, rc, none⟩ = some (.int .i32 xrc) := by rw [hwd]; exact rrc'
          have era : wd.cell? ⟨gr, ra, none⟩ = some (.int .i32 xra) := by rw [hwd]; exact rra'
          have erb : wd.cell? ⟨gr, rb, none⟩ = some (.int .i32 xrb) := by rw [hwd]; exact rrb'
          have fd2 : wd.frozen? ⟨gr, d, none⟩ = false := by rw [hwd]; exact fd'
          have d1 := b1
          have d2 := b2
          have d3 := b3
          have d7 := b7
          have HRD : Hid (Regs w.heap.size wd (.slice (some ⟨gr, 0, none⟩) nx c2) ys) := by rw [hwd]; exact HRN.out
          have HPD : Hid (Blk wd w.heap.size 56 #[.int .i64 params, .int .i64 nx, .slice (some ⟨g, o, none⟩) l.length c]) := by rw [hwd]; exact HPN.out
          have HBD : Hid (Below w.heap.size w wd) := by rw [hwd]; exact ⟨HBN.out.os, HBN.out.tape, HBN.out.output, HBN.out.size, HBN.out.block⟩
          rw [← hwd]
          clear hwd rd' rrc' rra' rrb' fd' b1 b2 b3 b7 d1 d2 d3 d7 HRN HPN HBN s0' s1' s2'
          go_wp2_with fail
          go_roundw
          case rel => exact ⟨k + 1, _, _, _, by omega, by go_num, rfl, rfl, by omega, by omega, HNE.out, HIN.out, HSL.out, HNR.out, by rw [← HLEN.out] at HRD ⊢; exact HRD.out.set rr, HPD.out.far (p := ⟨gr, d, none⟩) (fun e => HRD.out.neT HPD.out (by decide) (by show some gr = _; rw [e])) _, HBD.out.setCell (p := ⟨gr, d, none⟩) (HRD.out.base gr rfl) _⟩
          case measure => simp [intOf]; omega
        case tick  =>
          clear hf hu hd hok
          have hsz : w.heap.size < w1.heap.size := HP1.out.lt
          go_wp2_with fail
          go_roundw
          case rel => exact ⟨k + 1, _, _, _, by omega, by go_num, rfl, rfl, by omega, by omega, HNE.out, HIN.out, HSL.out, HNR.out, HRG1.out.only ((Only.refl (fun _ => False) _).alloc _) (fun _ _ => id), HP1.out.alloc _, HB1.out.alloc HB1.out.size _⟩
          case measure => simp [intOf]; omega
        case goto to_ =>
          clear hf hu hd hok
          have hsz : w.heap.size < w1.heap.size := HP1.out.lt
          go_wp2_with fail
          go_roundw
          case rel => exact ⟨k + 1, _, _, _, by omega, by go_num, rfl, rfl, by omega, by omega, HNE.out, HIN.out, HSL.out, HNR.out, HRG1.out.only ((Only.refl (fun _ => False) _).alloc _) (fun _ _ => id), HP1.out.alloc _, HB1.out.alloc HB1.out.size _⟩
          case measure => simp [intOf]; omega
        case branch ra to_ =>
          obtain ⟨ra, rfl, hra⟩ := inS_nat hu
          clear hf hd hok
          obtain ⟨gr, cap, hsl, hcp1, hcp2, hBg, cur, hgr, hcs, hcur⟩ := HRG1.out.at (k := ra) (by rw [HLEN.out]; exact hra)
          injection hsl with hsl1 hsl2 hsl3
          subst hsl1; subst hsl3
          obtain ⟨ga, oa, rfl, hia⟩ := HI1.out.cells (by simp)
          have s0 := hia 0 _ rfl
          have rr : w1.cell? ⟨gr, ra, none⟩ = some (.int .i32 (ys.getD ra 0)) := by rw [hgr.cell, hcur ra (by rw [HLEN.out]; exact hra)]
          have hgl : gr < w1.heap.size := hgr.lt
          simp only [Int.toNat_natCast] at HIN HNR HSL HNE
          obtain ⟨xa, hxa⟩ : ∃ xa, ys.getD ra 0 = xa := ⟨_, rfl⟩
          simp only [hxa] at rr HIN HNE
          clear hxa
          obtain ⟨wn, hwn⟩ : ∃ wn, wn = w1.alloc (.cells #[.int .i64 8, .int .i64 (-1), .int .i64 0, .int .i64 0, .int .i64 0, .int .i64 0, .int .i64 to_, .slice (some ⟨ga, oa, none⟩) 1 pc] 30) := ⟨_, rfl⟩
          obtain ⟨X, hX⟩ : ∃ X, X = w1.heap.size := ⟨_, rfl⟩
          have kb : Blk wn X 30 #[.int .i64 8, .int .i64 (-1), .int .i64 0, .int .i64 0, .int .i64 0, .int .i64 0, .int .i64 to_, .slice (some ⟨ga, oa, none⟩) 1 pc] := by rw [hwn, hX]; exact Blk.new _ _ _
          have hOn : Only (fun _ => False) w1 wn := by rw [hwn]; exact (Only.refl _ _).alloc _
          have HRD := Lib.hid (HRG1.out.only hOn (fun _ _ => id))
          have HPD := Lib.hid (HP1.out.only hOn id)
          have HBD := Lib.hid (HB1.out.trans (hOn.below HB1.out.size (fun _ h => h.elim)))
          have rr' : wn.cell? ⟨gr, ra, none⟩ = some (.int .i32 xa) := by rw [hOn.cell (p := ⟨gr, ra, none⟩) hgl id]; exact rr
          have s0' := (hOn.cell (World.block_lt_of_cell? _ _ s0) id).trans s0
          have b6 := kb.cell 6
          have b7 := kb.cell 7
          simp at b6 b7 s0'
          clear rr hgr hcur hcs hBg hsl2 hOn kb HRG1 HP1 HB1 HI1 s0 hia
          go_upto_region 25 with (fail)
          rw [← hwn, ← hX]
          clear hwn hX c0 c1 c2' c3 c4 c5 c6 c7 p2 hgl
          by_cases hx : xa = 0
          · subst hx
            rw [if_pos rfl] at HIN HNE
            go_wp2_with fail
            go_roundw
            case rel => exact ⟨k + 1, _, _, _, by omega, by go_num, rfl, rfl, by omega, by omega, HNE.out, HIN.out, HSL.out, HNR.out, HRD.out, HPD.out, HBD.out⟩
            case measure => simp [intOf]; omega
          · have hx' : (xa != 0) = true := by simp [hx]
            rw [if_neg hx] at HIN HNE
            go_wp2_with fail
            go_roundw
            case rel => exact ⟨k + 1, _, _, _, by omega, by go_num, rfl, rfl, by omega, by omega, HNE.out, HIN.out, HSL.out, HNR.out, HRD.out, HPD.out, HBD.out⟩
            case measure => simp [intOf]; omega
    · have hnl : ¬ ((k : Int) < most) := hlt
      go_wp2_with fail
      go_ret3
      have he : evalS l (most.toNat - k) (ys, (a : Int), t) = (ys, (a : Int), t) := by
        rw [show most.toNat - k = 0 by omega]; rfl
      have hee := HEV.out
      rw [he] at hee
      rw [← hee]
      exact ⟨_, rfl, by rw [← HLEN.out] at HRG; rw [← HLEN.out]; exact HRG.out, HB.out⟩
end Go.Proofs.YtilifniflpbbkaaDoor
