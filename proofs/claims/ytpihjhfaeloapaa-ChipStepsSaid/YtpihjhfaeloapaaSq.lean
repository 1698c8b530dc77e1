/- The document's Step: pop. PRINTED by gense.py. -/
import Derived.Test.YtpihjhfaeloapaaVl
import Derived.Test.YtpihjhfaeloapaaVk
import Derived.Test.YtpihjhfaeloapaaVm
namespace Go.Proofs.Ytpihjhfaeloapaa
open Go.RowKit On Th
set_option maxHeartbeats 16000000 in
set_option maxRecDepth 100000 in
theorem rarm_40 : rsw.1 40 := by
  delta rsw
  dsimp only
  intro c rm rg _ f hst HOK _ pc0 hpc _ _ _ _ _ _ _ _ _ _ _ _ _ _ _ _ _ _ _ _ _ _ _ _ _ _ q k imm cond hk1 _ ip _ wA _ HWS dn _ _ nn' _ n1 mn _ _ HF HIR HRT HIA i0' i1' i2' i3' i4' _ hrd _ hrn _ hrm ed en em _ _ _ HMA _ cp HCA _ _ _ hws2 hJ
  have hf1 := HCA.out.1.frozen dn
  have hk : k = 1 := by simpa using HIR.out.2
  subst hk
  obtain ⟨l1, l2, l3⟩ := low15 HRT.out (by simp)
  obtain ⟨hm1, hm2⟩ := HIR.out.1.lst (by simp)
  dsimp only at hm1 hm2
  obtain ⟨i0, hi0, hz0, hz1, hz2⟩ := info_parts1 info_int
  have hb1 : ∀ k : Nat, bits .and .i64 (imm / 2 ^ k) 1 = imm / 2 ^ k % 2 := fun k => by
    have hq : 0 ≤ imm / 2 ^ k := Int.ediv_nonneg (by omega) (Int.le_of_lt (Int.pow_pos (by decide)))
    have hq2 : imm / 2 ^ k ≤ imm := Int.ediv_le_self _ (by omega)
    generalize imm / 2 ^ k = q at *
    obtain ⟨n, rfl⟩ : ∃ n : Nat, q = n := ⟨q.toNat, by omega⟩
    exact and1_i64 n (by omega)
  obtain ⟨r13, hr13⟩ : ∃ x, c.R.getD 13 0 = x := ⟨_, rfl⟩
  have HU13 : Hid (U r13) := by show U _; rw [← hr13]; exact HCA.out.2.reg (by omega)
  have HIB := Lib.hid HIA.out
  clear i1' i2' i3' hrd hrn hrm hf1
  simp only [ed, en, em, Int.mul_one, show decide ((1 : Int) < 1) = false from rfl]
  go_wp2_with fail
  go_loopw [34, 35] (fun v i wx => ∃ (k : Nat) (A : Option Addr) (c0 : Nat), k ≤ 9 ∧ i = .int .i64 k ∧ v = .slice A (bitsTo imm k).length c0 ∧ IntsO wA.heap.size wx A c0 (bitsTo imm k) ∧ Below wA.heap.size wA wx) (fun _ i _ => 9 - (intOf i).toNat)
  case atStart => exact ⟨0, none, 0, by omega, rfl, rfl, World.ownsRow_nil _ _ _ _, Below.refl _ _⟩
  case round =>
    obtain ⟨k, A, c0, hk, rfl, rfl, ho, hb⟩ := hrel
    have HO := Lib.hid ho; have HB := Lib.hid hb
    have hbk := hb1 k
    have hO : Only (fun _ => False) wA wr := Only.of_below hb
    have j4 : wr.cell? ⟨ip, 4, none⟩ = some (.int .i64 imm) := by rw [hO.cell (p := ⟨ip, 4, none⟩) HIA.out.lt id]; exact i4'
    have j0 : wr.cell? ⟨ip, 0, none⟩ = some (.int .i64 40) := by rw [hO.cell (p := ⟨ip, 0, none⟩) HIA.out.lt id]; exact i0'
    by_cases hlt : k < 9
    · have hsw : wA.heap.size ≤ wr.heap.size := hb.size
      have hl := bitsTo_len imm k
      have HBT : Hid (bitsTo imm (k + 1) = bitsTo imm k ++ (if imm / 2 ^ k % 2 = 1 then [(k : Int)] else [])) := rfl
      clear ho hb hO i0' i4'
      by_cases hb : imm / 2 ^ k % 2 = 1
      · have hbb : (imm / 2 ^ k % 2 == 1) = true := by simp [hb]
        rw [if_pos hb] at HBT
        clear hb
        obtain ⟨l2, hl2'⟩ : ∃ l2, bitsTo imm (k + 1) = l2 := ⟨_, rfl⟩
        rw [hl2'] at HBT
        have HL2 := Lib.hid hl2'
        clear hl2'
        generalize bitsTo imm k = l at *
        have HOW : Hid (World.ownsRow _ _ _ _ _ _ _) := HO.out
        go_wp2_with (at_builtin; go_loud (refine wpList_append_at _ rfl (.tmp 464) (.tmp 466) _ rfl wA.heap.size 3 i0 _ 1 8 Try.underlying103 hi0 hz0 hz1 hz2 rfl (by omega) _ l.length (l.map (Value.int .i64)) rfl (own_only HOW.out ((Only.refl (fun _ => False) wr).alloc _) (fun _ _ => id)) (some ⟨wr.heap.size, 0, none⟩) 1 1 _ rfl (Src.block wr 3 1 [.int .i64 (k : Int)] rfl (by simp [Value.oneCell']) (0, 0)) (by simp) (by unfold maxLen; omega) (by omega) (by simp; omega) ?_))
        intro A5 c5 w5 hown5 hg5 hn5
        have HB5 : Hid (Below wA.heap.size wA w5) := HB.out.trans ((((Only.refl (fun j => wA.heap.size ≤ j) wr).alloc (.cells #[.int .i64 (k : Int)] 3)).grown hg5 (fun j hj => .inl (HOW.out.lt j hj).1)).below hsw (fun j h => h))
        have HO5 : Hid (IntsO wA.heap.size w5 A5 c5 (l ++ [(k : Int)])) := by
          show World.ownsRow _ _ _ _ _ _ _
          rw [List.length_append, List.map_append]; exact hown5
        clear hown5 hg5 hn5 HOW
        have hl2 : (l ++ [(k : Int)]).length = l.length + 1 := by simp
        go_wp2_with fail
        go_roundw
        case rel => exact ⟨k + 1, A5, c5, by omega, by go_num, by rw [HL2.out, HBT.out, hl2], by rw [HL2.out, HBT.out]; exact HO5.out, HB5.out⟩
        case measure => simp [intOf]; omega
      · have hbb : (imm / 2 ^ k % 2 == 1) = false := by simp [hb]
        rw [if_neg hb, List.append_nil] at HBT
        clear hb
        go_wp2_with fail
        exact ⟨⟨k + 1, A, c0, by omega, by go_num, by rw [HBT.out], by rw [HBT.out]; exact HO.out, HB.out⟩, by simp [intOf]; omega⟩
    · have hk9 : k = 9 := by omega
      subst hk9
      have hl := bitsTo_len imm 9
      have HLN := Lib.hid (bits_len (imm := imm) (by omega) (by omega) 15)
      have HLG := Lib.hid (fun k (hk : k < (bitsTo imm 9).length) => bits_get (imm := imm) (by omega) (by omega) 15 hk)
      have HLM := Lib.hid (bitsTo_mem imm 9)
      have HCR := Lib.hid (HCA.out.only hO id)
      have HWR := Lib.hid (HWS.out.only hO id)
      have HMR := Lib.hid (rm_only HMA.out hO id id)
      have HOR := Lib.hid hO
      have q13 := HCR.out.reg (k := 13) (by omega)
      rw [hr13] at q13
      have HWL := Lib.hid HWR.out.1.lt
      have HJ4 := Lib.hid j4; have HJ0 := Lib.hid j0
      have HFR := Lib.hid HMA.out.2.range
      obtain ⟨a1, a2⟩ := rapart HCA.out HMA.out
      obtain ⟨a3, a4⟩ := rapart HWS.out HMA.out
      clear ho hb hO hb1 hbk hlt i0' i4' HB
      generalize hls : listS imm 15 = ls at *
      generalize bitsTo imm 9 = l at *
      obtain ⟨n, hn⟩ : ∃ n, l.length = n := ⟨_, rfl⟩
      rw [hn] at hl HLN HLG ⊢
      have HLS := Lib.hid hls
      have HNN := Lib.hid hn
      obtain ⟨u0, u1⟩ := HU13.out
      clear hls hn hk
      have e4 : (4 * (n : Int)) % 4294967296 = 4 * n := by omega
      have e5 : (n : Int) % 4294967296 = n := by omega
      obtain ⟨base, hbase⟩ : ∃ b, r13 = b := ⟨_, rfl⟩
      have hbu : 0 ≤ base ∧ base < 4294967296 := by omega
      obtain ⟨hb0, hb1⟩ := hbu
      obtain ⟨wv, rfl⟩ : ∃ wv, wv = wr := ⟨_, rfl⟩
      have HP0 : Hid (badR f false base 0 = false) := rfl
      have HBW := Lib.hid (fun (k : Nat) (h : badR f false base k = false) => badR_wrap ⟨hb0, hb1⟩ h)
      have HBM := Lib.hid (fun (k : Nat) (h : badR f false base k = true) (hk : k ≤ n) => badR_mono h hk)
      have HBL := Lib.hid (fun (k : Nat) (h : badR f false base n = false) (hk : k ≤ n) => badR_less h hk)
      have HBS : Hid (∀ k : Nat, badR f false base (k + 1) = (badR f false base k || !okR f false (base + 4 * k))) := fun _ => rfl
      have HOKR : Hid (∀ a, okR f false a = (wordS f a).2) := fun a => rfl
      obtain ⟨s0, hs0⟩ : ∃ s0, s0 = ({ c.sp (.pointer none) ⟨40, dn, nn', mn, imm, cond⟩ with touch := base, cost := 1 + (n : Int) } : Sp) := ⟨_, rfl⟩
      have HS0 : Hid (s0.c = { c with R := c.R.set 15 ((pc0 + 2) % 4294967296) } ∧ s0.cost = 1 + n ∧ s0.touch = base ∧ s0.fault = false) := by
        rw [hs0]
        refine ⟨?_, rfl, rfl, rfl⟩
        unfold Ch.sp
        dsimp only
        rw [hpc]
        rfl
      have HN13 : Hid (∀ k, k < n → (ls.getD k 0).toNat ≠ 13) := fun k hk => by
        have h4 := HLG.out k hk
        have h5 : l.getD k 0 ∈ l := by rw [List.getD_eq_getElem?_getD, List.getElem?_eq_getElem (by rw [HNN.out]; exact hk)]; exact List.getElem_mem _
        have h6 := HLM.out _ h5
        rw [h4]; split <;> omega
      have HPB : Hid (∀ mp : Value, (c.sp mp ⟨40, dn, nn', mn, imm, cond⟩).exec f = ({ (popUp f base ls s0 n).setR 13 ((base + 4 * n) % 4294967296) with m := mp }, f)) := fun mp => by
        have e : (c.sp mp ⟨40, dn, nn', mn, imm, cond⟩).exec f = (((c.sp mp ⟨40, dn, nn', mn, imm, cond⟩).popE f).setR 13 ((((c.sp mp ⟨40, dn, nn', mn, imm, cond⟩).popE f).c.R.getD 13 0 + 4 * (listS imm 15).length) % 4294967296), f) := by rfl
        have e1 : (c.sp mp ⟨40, dn, nn', mn, imm, cond⟩).c.R.getD 13 0 = base := by unfold Ch.sp; dsimp only; rw [get15 _ (by omega), hr13, hbase]
        have e2 : (c.sp mp ⟨40, dn, nn', mn, imm, cond⟩).popE f = popUp f ((c.sp mp ⟨40, dn, nn', mn, imm, cond⟩).c.R.getD 13 0) (listS imm 15) { c.sp mp ⟨40, dn, nn', mn, imm, cond⟩ with touch := (c.sp mp ⟨40, dn, nn', mn, imm, cond⟩).c.R.getD 13 0, cost := 1 + ((listS imm 15).length : Int) } (listS imm 15).length := rfl
        have e3 : ({ c.sp mp ⟨40, dn, nn', mn, imm, cond⟩ with touch := base, cost := 1 + (n : Int) } : Sp) = { s0 with m := mp } := by rw [hs0]; rfl
        rw [e1, HLS.out, HLN.out, e3, popUp_m] at e2
        rw [e2] at e
        have e4 : ({ popUp f base ls s0 n with m := mp } : Sp).c.R.getD 13 0 = base := by
          show (popUp f base ls s0 n).c.R.getD 13 0 = base
          rw [pop_13 (fun j hj => HN13.out j hj), HS0.out.1]
          dsimp only
          rw [get15 _ (by omega), hr13, hbase]
        rw [e4, HLS.out, HLN.out] at e
        exact e
      have HSL : Hid (∀ k, (popUp f base ls s0 k).c.R.length = 16) := fun k => by rw [pop_len, HS0.out.1, List.length_set]; exact HOK.out.len
      have HCK0 : Hid (∀ k, (popUp f base ls s0 k).c = { c with R := (popUp f base ls s0 k).c.R }) := fun k => by
        obtain ⟨r1, r2, r3, r4, r5, r6, r7⟩ := pop_rest f base ls s0 k
        rw [HS0.out.1] at r1 r2 r3 r4 r5 r6 r7
        generalize (popUp f base ls s0 k).c = z at *
        obtain ⟨zR, z1, z2, z3, z4, z5, z6, z7⟩ := z
        dsimp only at *
        subst r1; subst r2; subst r3; subst r4; subst r5; subst r6; subst r7
        rfl
      have HTC : Hid (∀ k, (popUp f base ls s0 k).touch = base ∧ 1 + (n : Int) ≤ (popUp f base ls s0 k).cost ∧ (popUp f base ls s0 k).cost ≤ 1 + n + 3 * k) := fun k => by
        obtain ⟨_, k2, _, _, k5, k6⟩ := popUp_keeps f base ls s0 k
        rw [HS0.out.2.1] at k5 k6
        exact ⟨k2.trans HS0.out.2.2.1, k5, k6⟩
      have HFT : Hid ((popUp f base ls s0 n).fault = badR f false base n) := by show _ = _; rw [badR_pop, HS0.out.2.2.2, Bool.false_or]
      have H00 : Hid ((popUp f base ls s0 0).c.R.getD 15 0 = (pc0 + 2) % 4294967296 ∧ (popUp f base ls s0 0).cost = 1 + n ∧ (popUp f base ls s0 0).c.R.set 15 pc0 = c.R) := by
        refine ⟨?_, HS0.out.2.1, ?_⟩
        · show s0.c.R.getD 15 0 = _
          rw [HS0.out.1]
          show (c.R.set 15 _).getD 15 0 = _
          rw [List.getD_eq_getElem?_getD, List.getElem?_set_self (by rw [HOK.out.len]; decide)]; rfl
        · show s0.c.R.set 15 pc0 = _
          rw [HS0.out.1]
          show (c.R.set 15 _).set 15 pc0 = _
          rw [List.set_set, ← hpc, set_self15 HOK.out.len]
      clear hs0
      go_wp2_with fail
      go_loopw [23, 37] (fun fb i wx => ∃ k : Nat, k ≤ n ∧ i = .int .i64 k ∧ fb = .bool (badR f false base k) ∧ Only (fun _ => False) wv wx) (fun _ i _ => n - (intOf i).toNat)
      case atStart => exact ⟨0, by omega, rfl, rfl, Only.refl _ _⟩
      case round =>
        obtain ⟨k, hkn, rfl, rfl, ho⟩ := hrel
        have HOX := Lib.hid ho
        have HMX := Lib.hid (rm_only HMR.out ho id id)
        have HBK := Lib.hid (HBS.out k)
        have HBWk := Lib.hid (HBW.out k)
        have HBMk := Lib.hid (HBM.out k)
        have j0 : wr.cell? ⟨ip, 0, none⟩ = some (.int .i64 40) := by
          rw [ho.cell (p := ⟨ip, 0, none⟩) (Nat.lt_of_lt_of_le HIB.out.lt HOR.out.size) id]; exact HJ0.out
        obtain ⟨bk, hbk⟩ : ∃ b, badR f false base k = b := ⟨_, rfl⟩
        rw [hbk] at HBK HBWk HBMk ⊢
        have HBE := Lib.hid hbk
        clear ho hbk
        cases bk
        · by_cases hlt : (k : Int) < n
          · obtain ⟨w0, w1⟩ := HBWk.out (by first | trivial | rfl)
            have hA : (base + 4 * (k : Int)) % 4294967296 = base + 4 * k := by omega
            have hk4 : (4 * (k : Int)) % 4294967296 = 4 * k := by omega
            have hk1 : (k : Int) % 4294967296 = k := by omega
            have HW := Lib.hid (rword_c wr rm rg f (base + 4 * k) HMX.out)
            rw [HOKR.out] at HBK
            generalize wordS f (base + 4 * k) = z at *
            obtain ⟨x, ok⟩ := z
            dsimp only at HW HBK
            go_wp2_with fail
            refine (HW.out).mono ?_
            rintro e w2 ⟨rfl, q2, rfl⟩
            have HOY := Lib.hid (HOX.out.trans ((Only.refl (fun _ => False) wr).drewN q2) (fun _ _ h => h))
            cases ok
            · go_wp2_with fail
              exact ⟨⟨k + 1, by omega, by go_num, by rw [HBK.out]; rfl, HOY.out⟩, by simp [intOf]; omega⟩
            · go_wp2_with fail
              exact ⟨⟨k + 1, by omega, by go_num, by rw [HBK.out]; rfl, HOY.out⟩, by simp [intOf]; omega⟩
          · have hkk : n = k := by omega
            subst hkk
            have HBN := Lib.hid HBE.out
            clear HBK HBWk HBMk HBE HBM HBS hlt hkn
            have HCX := Lib.hid (HCR.out.only HOX.out id)
            have HWX := Lib.hid (HWR.out.only HOX.out id)
            have HOI := Lib.hid (HO.out.only HOX.out (fun _ h => h.elim))
            have HOA := Lib.hid (HOR.out.trans HOX.out (fun _ _ h => h))
            obtain ⟨wy, rfl⟩ : ∃ wy, wy = wr := ⟨_, rfl⟩
            clear HCR HWR HMR HO HOR HOKR q13 HP0 HJ4 j4
            have h0c : ({ c with R := (popUp f base ls s0 0).c.R.set 15 pc0 } : Ch) = c := by rw [H00.out.2.2]
            go_wp2_with fail
            go_loopw [16, 17, 41] (fun nx co i wx => ∃ k : Nat, k ≤ n ∧ nx = .int .u32 ((popUp f base ls s0 k).c.R.getD 15 0) ∧ co = .int .i64 (popUp f base ls s0 k).cost ∧ i = .int .i64 k ∧ U ((popUp f base ls s0 k).c.R.getD 15 0) ∧ ChW wx cp { c with R := (popUp f base ls s0 k).c.R.set 15 pc0 } ∧ Only (fun j => j = cp) wy wx) (fun _ _ i _ => n - (intOf i).toNat)
            case atStart => exact ⟨0, by omega, by rw [H00.out.1], by rw [H00.out.2.1], rfl, by rw [H00.out.1]; unfold U; omega, by rw [h0c]; exact HCX.out, Only.refl _ _⟩
            case round =>
              obtain ⟨k, hkn, rfl, rfl, rfl, hun, hc, ho⟩ := hrel
              have HUN := Lib.hid hun; have HCK := Lib.hid hc; have HOY := Lib.hid ho
              have HMK := Lib.hid (rm_only HMX.out ho a1 a2)
              have HWK := Lib.hid (HWX.out.only ho (fun e => hws2 e.symm))
              have hcpl : cp < wA.heap.size := HCA.out.1.lt
              have HOIK := Lib.hid (HOI.out.only ho (fun j e => by have e' : j = cp := e; rw [e']; exact hcpl))
              have j0 : wr.cell? ⟨ip, 0, none⟩ = some (.int .i64 40) := by
                rw [((HOA.out.mono (T := fun j => j = cp) (fun _ _ h => h.elim)).trans ho (fun _ _ h => h)).cell (p := ⟨ip, 0, none⟩) HIB.out.lt (HIB.out.ne HCA.out.1 (by decide))]
                have := HIB.out.cell 0
                simpa using this
              obtain ⟨_, kc1, kc2⟩ := HTC.out k
              clear hun hc ho h0c
              by_cases hlt : k < n
              · obtain ⟨x, hx⟩ : ∃ x, l[k]? = some x := ⟨_, List.getElem?_eq_getElem (by rw [HNN.out]; exact hlt)⟩
                obtain ⟨gl, rfl, cx⟩ := HOIK.out.cell hx
                have hxr := HLM.out x (List.mem_of_getElem? hx)
                have hgd : l.getD k 0 = x := by rw [List.getD_eq_getElem?_getD, hx]; rfl
                have hls := HLG.out k hlt
                rw [hgd] at hls
                obtain ⟨xn, rfl⟩ : ∃ xn : Nat, x = xn := ⟨x.toNat, by omega⟩
                obtain ⟨w0, w1⟩ := HBW.out k (HBL.out k HBN.out hkn)
                have hA : (base + 4 * (k : Int)) % 4294967296 = base + 4 * k := by omega
                have hk4 : (4 * (k : Int)) % 4294967296 = 4 * k := by omega
                have hk1 : (k : Int) % 4294967296 = k := by omega
                have hxi : (xn : Int) < 16 := by omega
                have HV := Lib.hid (wordS_U HFR.out (base + 4 * k))
                have HW := Lib.hid (rword_c wr rm rg f (base + 4 * k) HMK.out)
                have HNX := Lib.hid (fun h => pop_next f base ls s0 k h (HSL.out k) pc0)
                have HRG := Lib.hid (fun r h h2 => pop_reg f base ls s0 k r h h2 pc0)
                clear hx hgd
                generalize wordS f (base + 4 * k) = z at *
                obtain ⟨v, ok⟩ := z
                dsimp only at HV HW HNX HRG
                generalize popUp f base ls s0 k = SK at *
                obtain ⟨v0, v1⟩ := HV.out
                by_cases h8 : xn = 8
                · subst h8
                  rw [if_pos (show ((8 : Nat) : Int) = 8 from rfl)] at hls
                  obtain ⟨n1, n2, n3⟩ := HNX.out hls
                  have HN1 := Lib.hid n1; have HN2 := Lib.hid n2; have HN3 := Lib.hid n3
                  have HAU := Lib.hid (andNot_U HV.out (show U 1 by unfold U; omega))
                  clear hls n1 n2 n3 HNX HRG
                  go_wp2_with fail
                  refine (HW.out).mono ?_
                  rintro e w2 ⟨rfl, q2, rfl⟩
                  have hod : Only (fun _ => False) wr (wr.drewN q2) := (Only.refl _ _).drewN _
                  obtain ⟨w2, hw2⟩ : ∃ w2, w2 = wr.drewN q2 := ⟨_, rfl⟩
                  rw [← hw2] at hod ⊢
                  have HC2 := Lib.hid (HCK.out.only hod id)
                  have HO2 := Lib.hid (HOY.out.trans hod (fun _ _ h => h.elim))
                  clear hod hw2
                  go_wp2_with fail
                  exact ⟨⟨k + 1, by omega, by rw [HN2.out], by rw [HN3.out], by go_num, by rw [HN2.out]; exact HAU.out, by rw [HN1.out]; exact HC2.out, HO2.out⟩, by simp [intOf]; omega⟩
                · have h8i : ((xn : Int) == 8) = false := by simp; omega
                  rw [if_neg (by omega)] at hls
                  obtain ⟨n1, n2, n3⟩ := HRG.out xn hls (by omega)
                  have HN1 := Lib.hid n1; have HN2 := Lib.hid n2; have HN3 := Lib.hid n3
                  clear hls n1 n2 n3 HNX HRG h8
                  go_wp2_with fail
                  refine (HW.out).mono ?_
                  rintro e w2 ⟨rfl, q2, rfl⟩
                  have hod : Only (fun _ => False) wr (wr.drewN q2) := (Only.refl _ _).drewN _
                  have cx2 : (wr.drewN q2).cell? ⟨gl, k, none⟩ = some (.int .i64 xn) := cx
                  obtain ⟨w2, hw2⟩ : ∃ w2, w2 = wr.drewN q2 := ⟨_, rfl⟩
                  rw [← hw2] at hod cx2 ⊢
                  have HC2 := Lib.hid (HCK.out.only hod id)
                  have HO2 := Lib.hid ((HOY.out.trans hod (fun _ _ h => h.elim)).setCell (p := ⟨cp, xn, none⟩) (.inl rfl) (.int .u32 v))
                  have qx := HC2.out.reg (k := xn) (by omega)
                  have fx := HC2.out.1.frozen xn
                  clear hod hw2
                  go_wp2_with fail
                  exact ⟨⟨k + 1, by omega, by rw [HN2.out, List.getD_eq_getElem?_getD], by rw [HN3.out], by go_num, by rw [HN2.out]; exact HUN.out, by rw [HN1.out]; exact HC2.out.setReg (k := xn) (by omega) HV.out, HO2.out⟩, by simp [intOf]; omega⟩
              · have hkk : n = k := by omega
                subst hkk
                have q13 := HCK.out.reg (k := 13) (by omega)
                have f13 := HCK.out.1.frozen 13
                obtain ⟨pR, hpR⟩ : ∃ x, (popUp f base ls s0 n).c.R = x := ⟨_, rfl⟩
                have HPR := Lib.hid hpR
                rw [hpR] at HCK HUN q13 ⊢
                clear hpR
                go_wp2_with fail
                have hO1 := (HOA.out.mono (T := fun j => j = cp) (fun _ _ h => h.elim)).trans HOY.out (fun _ _ h => h)
                have hO := (hO1.setCell (p := ⟨cp, 13, none⟩) (.inl rfl) (.int .u32 base)).setCell (p := ⟨cp, 13, none⟩) (.inl rfl) (.int .u32 ((base + 4 * n) % 4294967296))
                refine rmeet hJ rfl { c with R := ((pR.set 15 pc0).set 13 base).set 13 ((base + 4 * n) % 4294967296) } f HUN.out ((HCK.out.setReg (k := 13) (x := base) (by omega) ⟨hb0, hb1⟩).setReg (k := 13) (by omega) (by unfold U; omega)) (HWS.out.only hO (fun e => hws2 e.symm)) (rm_only HMA.out hO a1 a2) (hO.mono (fun _ _ h => .inl h)) (fun h => by cases h) (fun _ mp => ?_)
                refine sp_end hst hpc HF (HPB.out mp) (by rw [show ({ (popUp f base ls s0 n).setR 13 ((base + 4 * n) % 4294967296) with m := mp } : Sp).fault = (popUp f base ls s0 n).fault from rfl, HFT.out, HBN.out]) ?_ rfl (HTC.out n).1
                have hc1 := HCK0.out n
                have hpl := HSL.out n
                rw [HPR.out] at hc1 hpl
                have hR : (((pR.set 15 pc0).set 13 base).set 13 ((base + 4 * (n : Int)) % 4294967296)).set 15 (pR.getD 15 0) = pR.set 13 ((base + 4 * (n : Int)) % 4294967296) := by
                  rw [List.set_set, List.set_comm _ _ (show (13 : Nat) ≠ 15 by decide), List.set_set, set_self15 hpl]
                show ({ (popUp f base ls s0 n).c with R := (popUp f base ls s0 n).c.R.set 13 ((base + 4 * (n : Int)) % 4294967296) } : Ch) = { c with R := (((pR.set 15 pc0).set 13 base).set 13 ((base + 4 * (n : Int)) % 4294967296)).set 15 (pR.getD 15 0) }
                rw [hR, hc1]
        · have hn0 : 0 < n := by
            by_cases h : n = 0
            · subst h
              have : k = 0 := by omega
              subst this
              have h1 := HP0.out
              rw [HBE.out] at h1
              cases h1
            · omega
          have HBN := Lib.hid (HBMk.out (by first | trivial | rfl) hkn)
          have HCX := Lib.hid (HCR.out.only HOX.out id)
          have HWX := Lib.hid (HWR.out.only HOX.out id)
          have q13 := HCX.out.reg (k := 13) (by omega)
          have f13 := HCX.out.1.frozen 13
          clear HBK HBWk HBE HBW HBM HBS HBL HBMk
          by_cases hlt : (k : Int) < n
          all_goals
            go_wp2_with fail
            go_loopw [16, 17, 41] (fun nx co i wx => nx = .int .u32 ((pc0 + 2) % 4294967296) ∧ co = .int .i64 (1 + n) ∧ i = .int .i64 0 ∧ wx = wr) (fun _ _ _ _ => 0)
            case atStart => exact ⟨rfl, rfl, rfl, rfl⟩
            case round =>
              obtain ⟨rfl, rfl, rfl, rfl⟩ := hrel
              go_wp2_with fail
              have hO := (((HOR.out.trans HOX.out (fun _ _ h => h)).mono (T := fun j => j = cp) (fun _ _ h => h.elim)).setCell (p := ⟨cp, 13, none⟩) (.inl rfl) (.int .u32 base)).setCell (p := ⟨cp, 13, none⟩) (.inl rfl) (.int .u32 ((base + 4 * n) % 4294967296))
              refine rmeet hJ rfl { c with R := (c.R.set 13 base).set 13 ((base + 4 * n) % 4294967296) } f ⟨by omega, by omega⟩ ((HCX.out.setReg (k := 13) (x := base) (by omega) ⟨hb0, hb1⟩).setReg (k := 13) (by omega) (by unfold U; omega)) (HWS.out.only hO (fun e => hws2 e.symm)) (rm_only HMA.out hO a1 a2) (hO.mono (fun _ _ h => .inl h)) (fun _ mp => ?_) (fun h => by cases h)
              exact stepS_bad hst (by rw [hpc]; exact HF.out) (HPB.out mp) (by rw [show ({ (popUp f base ls s0 n).setR 13 ((base + 4 * n) % 4294967296) with m := mp } : Sp).fault = (popUp f base ls s0 n).fault from rfl, HFT.out, HBN.out])
end Go.Proofs.Ytpihjhfaeloapaa
