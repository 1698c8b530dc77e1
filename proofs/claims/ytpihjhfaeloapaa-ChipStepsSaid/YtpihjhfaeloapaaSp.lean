/- The document's Step: push. PRINTED by gense.py. -/
import Derived.Test.YtpihjhfaeloapaaVl
import Derived.Test.YtpihjhfaeloapaaVk
import Derived.Test.YtpihjhfaeloapaaVm
namespace Go.Proofs.Ytpihjhfaeloapaa
open Go.RowKit On Th
set_option maxHeartbeats 16000000 in
set_option maxRecDepth 100000 in
theorem rarm_39 : rsw.1 39 := by
  delta rsw
  dsimp only
  intro c rm rg _ f hst _ _ pc0 hpc _ _ _ _ _ _ _ _ _ _ _ _ _ _ _ _ _ _ _ _ _ _ _ _ _ _ q k imm cond hk1 _ ip _ wA _ HWS dn _ _ nn' _ _ mn _ _ HF HIR HRT HIA i0' i1' i2' i3' i4' _ hrd _ hrn _ hrm ed en em _ _ _ HMA _ cp HCA _ _ _ hws2 hJ
  have hf1 := HCA.out.1.frozen dn
  have hk : k = 1 := by simpa using HIR.out.2
  subst hk
  obtain ⟨l1, l2, l3⟩ := low15 HRT.out (by simp)
  obtain ⟨hm1, hm2⟩ := HIR.out.1.lst (by simp)
  dsimp only at hm1 hm2
  obtain ⟨i0, hi0, hz0, hz1, hz2⟩ := info_parts1 info_int
  have hb1 : ∀ k : Nat, bits .and .i64 (imm / 2 ^ k) 1 = imm / 2 ^ k % 2 := fun k => by
    have hq : 0 ≤ imm / 2 ^ k := Int.ediv_nonneg (by omega) (Int.le_of_lt (Int.pow_pos (by decide)))
    have hq2 : imm / 2 ^ k ≤ imm := Int.ediv_le_self _ (by omega)
    generalize imm / 2 ^ k = q at *
    obtain ⟨n, rfl⟩ : ∃ n : Nat, q = n := ⟨q.toNat, by omega⟩
    exact and1_i64 n (by omega)
  obtain ⟨r13, hr13⟩ : ∃ x, c.R.getD 13 0 = x := ⟨_, rfl⟩
  have HU13 : Hid (U r13) := by show U _; rw [← hr13]; exact HCA.out.2.reg (by omega)
  have HIB := Lib.hid HIA.out
  clear i1' i2' i3' hrd hrn hrm hf1
  simp only [ed, en, em, Int.mul_one, show decide ((1 : Int) < 1) = false from rfl]
  go_wp2_with fail
  go_loopw [34, 35] (fun v i wx => ∃ (k : Nat) (A : Option Addr) (c0 : Nat), k ≤ 9 ∧ i = .int .i64 k ∧ v = .slice A (bitsTo imm k).length c0 ∧ IntsO wA.heap.size wx A c0 (bitsTo imm k) ∧ Below wA.heap.size wA wx) (fun _ i _ => 9 - (intOf i).toNat)
  case atStart => exact ⟨0, none, 0, by omega, rfl, rfl, World.ownsRow_nil _ _ _ _, Below.refl _ _⟩
  case round =>
    obtain ⟨k, A, c0, hk, rfl, rfl, ho, hb⟩ := hrel
    have HO := Lib.hid ho; have HB := Lib.hid hb
    have hbk := hb1 k
    have hO : Only (fun _ => False) wA wr := Only.of_below hb
    have j4 : wr.cell? ⟨ip, 4, none⟩ = some (.int .i64 imm) := by rw [hO.cell (p := ⟨ip, 4, none⟩) HIA.out.lt id]; exact i4'
    have j0 : wr.cell? ⟨ip, 0, none⟩ = some (.int .i64 39) := by rw [hO.cell (p := ⟨ip, 0, none⟩) HIA.out.lt id]; exact i0'
    by_cases hlt : k < 9
    · have hsw : wA.heap.size ≤ wr.heap.size := hb.size
      have hl := bitsTo_len imm k
      have HBT : Hid (bitsTo imm (k + 1) = bitsTo imm k ++ (if imm / 2 ^ k % 2 = 1 then [(k : Int)] else [])) := rfl
      clear ho hb hO i0' i4'
      by_cases hb : imm / 2 ^ k % 2 = 1
      · have hbb : (imm / 2 ^ k % 2 == 1) = true := by simp [hb]
        rw [if_pos hb] at HBT
        clear hb
        obtain ⟨l2, hl2'⟩ : ∃ l2, bitsTo imm (k + 1) = l2 := ⟨_, rfl⟩
        rw [hl2'] at HBT
        have HL2 := Lib.hid hl2'
        clear hl2'
        generalize bitsTo imm k = l at *
        have HOW : Hid (World.ownsRow _ _ _ _ _ _ _) := HO.out
        go_wp2_with (at_builtin; go_loud (refine wpList_append_at _ rfl (.tmp 464) (.tmp 466) _ rfl wA.heap.size 3 i0 _ 1 8 Try.underlying103 hi0 hz0 hz1 hz2 rfl (by omega) _ l.length (l.map (Value.int .i64)) rfl (own_only HOW.out ((Only.refl (fun _ => False) wr).alloc _) (fun _ _ => id)) (some ⟨wr.heap.size, 0, none⟩) 1 1 _ rfl (Src.block wr 3 1 [.int .i64 (k : Int)] rfl (by simp [Value.oneCell']) (0, 0)) (by simp) (by unfold maxLen; omega) (by omega) (by simp; omega) ?_))
        intro A5 c5 w5 hown5 hg5 hn5
        have HB5 : Hid (Below wA.heap.size wA w5) := HB.out.trans ((((Only.refl (fun j => wA.heap.size ≤ j) wr).alloc (.cells #[.int .i64 (k : Int)] 3)).grown hg5 (fun j hj => .inl (HOW.out.lt j hj).1)).below hsw (fun j h => h))
        have HO5 : Hid (IntsO wA.heap.size w5 A5 c5 (l ++ [(k : Int)])) := by
          show World.ownsRow _ _ _ _ _ _ _
          rw [List.length_append, List.map_append]; exact hown5
        clear hown5 hg5 hn5 HOW
        have hl2 : (l ++ [(k : Int)]).length = l.length + 1 := by simp
        go_wp2_with fail
        go_roundw
        case rel => exact ⟨k + 1, A5, c5, by omega, by go_num, by rw [HL2.out, HBT.out, hl2], by rw [HL2.out, HBT.out]; exact HO5.out, HB5.out⟩
        case measure => simp [intOf]; omega
      · have hbb : (imm / 2 ^ k % 2 == 1) = false := by simp [hb]
        rw [if_neg hb, List.append_nil] at HBT
        clear hb
        go_wp2_with fail
        exact ⟨⟨k + 1, A, c0, by omega, by go_num, by rw [HBT.out], by rw [HBT.out]; exact HO.out, HB.out⟩, by simp [intOf]; omega⟩
    · have hk9 : k = 9 := by omega
      subst hk9
      have hl := bitsTo_len imm 9
      have HLN := Lib.hid (bits_len (imm := imm) (by omega) (by omega) 14)
      have HLG := Lib.hid (fun k (hk : k < (bitsTo imm 9).length) => bits_get (imm := imm) (by omega) (by omega) 14 hk)
      have HLM := Lib.hid (bitsTo_mem imm 9)
      have HCR := Lib.hid (HCA.out.only hO id)
      have HWR := Lib.hid (HWS.out.only hO id)
      have HMR := Lib.hid (rm_only HMA.out hO id id)
      have HOR := Lib.hid hO
      have q13 := HCR.out.reg (k := 13) (by omega)
      rw [hr13] at q13
      have HWL := Lib.hid HWR.out.1.lt
      have HJ4 := Lib.hid j4; have HJ0 := Lib.hid j0
      have HFR := Lib.hid HMA.out.2.range
      obtain ⟨a1, a2⟩ := rapart HCA.out HMA.out
      obtain ⟨a3, a4⟩ := rapart HWS.out HMA.out
      clear ho hb hO hb1 hbk hlt i0' i4' HB
      generalize hls : listS imm 14 = ls at *
      generalize bitsTo imm 9 = l at *
      obtain ⟨n, hn⟩ : ∃ n, l.length = n := ⟨_, rfl⟩
      rw [hn] at hl HLN HLG ⊢
      have HLS := Lib.hid hls
      have HNN := Lib.hid hn
      obtain ⟨u0, u1⟩ := HU13.out
      clear hls hn hk
      have e4 : (4 * (n : Int)) % 4294967296 = 4 * n := by omega
      have e5 : (n : Int) % 4294967296 = n := by omega
      obtain ⟨base, hbase⟩ : ∃ b, (r13 - 4 * n) % 4294967296 = b := ⟨_, rfl⟩
      have hbu : 0 ≤ base ∧ base < 4294967296 := by omega
      obtain ⟨hb0, hb1⟩ := hbu
      obtain ⟨wv, rfl⟩ : ∃ wv, wv = wr := ⟨_, rfl⟩
      have HP0 : Hid (badR f true base 0 = false) := rfl
      have HBW := Lib.hid (fun (k : Nat) (h : badR f true base k = false) => badR_wrap ⟨hb0, hb1⟩ h)
      have HBM := Lib.hid (fun (k : Nat) (h : badR f true base k = true) (hk : k ≤ n) => badR_mono h hk)
      have HBL := Lib.hid (fun (k : Nat) (h : badR f true base n = false) (hk : k ≤ n) => badR_less h hk)
      have HBS : Hid (∀ k : Nat, badR f true base (k + 1) = (badR f true base k || !okR f true (base + 4 * k))) := fun _ => rfl
      have HOKR : Hid (∀ a, okR f true a = ((wordS f a).2 && !decide (a < 131072))) := fun a => okSW_word f a
      have HPB : Hid (∀ mp : Value, (c.sp mp ⟨39, dn, nn', mn, imm, cond⟩).exec f = ({ (c.sp mp ⟨39, dn, nn', mn, imm, cond⟩).push0 with fault := badR f true base n }, if badR f true base n then f else storeUp f base (c.sp mp ⟨39, dn, nn', mn, imm, cond⟩).push0.c.R ls n) ∧ (c.sp mp ⟨39, dn, nn', mn, imm, cond⟩).push0 = { (c.sp mp ⟨39, dn, nn', mn, imm, cond⟩).setR 13 base with touch := base, cost := 1 + (n : Int) }) := fun mp => by
        have e : (c.sp mp ⟨39, dn, nn', mn, imm, cond⟩).exec f = ((c.sp mp ⟨39, dn, nn', mn, imm, cond⟩).push, pushF (c.sp mp ⟨39, dn, nn', mn, imm, cond⟩) f) := by rfl
        have e3 : pushBase (c.sp mp ⟨39, dn, nn', mn, imm, cond⟩) = base := by
          show ((c.sp mp ⟨39, dn, nn', mn, imm, cond⟩).c.R.getD 13 0 - 4 * (listS imm 14).length) % 4294967296 = base
          have e1 : (c.sp mp ⟨39, dn, nn', mn, imm, cond⟩).c.R.getD 13 0 = r13 := by unfold Ch.sp; dsimp only; rw [get15 _ (by omega), hr13]
          rw [e1, HLS.out, HLN.out]; exact hbase
        have e6 : (c.sp mp ⟨39, dn, nn', mn, imm, cond⟩).push0 = { (c.sp mp ⟨39, dn, nn', mn, imm, cond⟩).setR 13 (pushBase (c.sp mp ⟨39, dn, nn', mn, imm, cond⟩)) with touch := pushBase (c.sp mp ⟨39, dn, nn', mn, imm, cond⟩), cost := 1 + ((listS imm 14).length : Int) } := rfl
        have e7 : (c.sp mp ⟨39, dn, nn', mn, imm, cond⟩).push = { (c.sp mp ⟨39, dn, nn', mn, imm, cond⟩).push0 with fault := badUp (pushBase (c.sp mp ⟨39, dn, nn', mn, imm, cond⟩)) (listS imm 14).length } := rfl
        have e8 : pushF (c.sp mp ⟨39, dn, nn', mn, imm, cond⟩) f = if badUp (pushBase (c.sp mp ⟨39, dn, nn', mn, imm, cond⟩)) (listS imm 14).length then f else storeUp f (pushBase (c.sp mp ⟨39, dn, nn', mn, imm, cond⟩)) (c.sp mp ⟨39, dn, nn', mn, imm, cond⟩).push0.c.R (listS imm 14) (listS imm 14).length := rfl
        rw [e3, HLS.out, HLN.out, ← badR_push f] at e7 e8
        rw [e3, HLS.out, HLN.out] at e6
        rw [e7, e8] at e
        exact ⟨e, e6⟩
      go_wp2_with fail
      go_loopw [23, 37] (fun fb i wx => ∃ k : Nat, k ≤ n ∧ i = .int .i64 k ∧ fb = .bool (badR f true base k) ∧ Only (fun _ => False) wv wx) (fun _ i _ => n - (intOf i).toNat)
      case atStart => exact ⟨0, by omega, rfl, rfl, Only.refl _ _⟩
      case round =>
        obtain ⟨k, hkn, rfl, rfl, ho⟩ := hrel
        have HOX := Lib.hid ho
        have HMX := Lib.hid (rm_only HMR.out ho id id)
        have HBK := Lib.hid (HBS.out k)
        have HBWk := Lib.hid (HBW.out k)
        have HBMk := Lib.hid (HBM.out k)
        have j0 : wr.cell? ⟨ip, 0, none⟩ = some (.int .i64 39) := by
          rw [ho.cell (p := ⟨ip, 0, none⟩) (Nat.lt_of_lt_of_le HIB.out.lt HOR.out.size) id]; exact HJ0.out
        obtain ⟨bk, hbk⟩ : ∃ b, badR f true base k = b := ⟨_, rfl⟩
        rw [hbk] at HBK HBWk HBMk ⊢
        have HBE := Lib.hid hbk
        clear ho hbk
        cases bk
        · by_cases hlt : (k : Int) < n
          · obtain ⟨w0, w1⟩ := HBWk.out (by first | trivial | rfl)
            have hA : (base + 4 * (k : Int)) % 4294967296 = base + 4 * k := by omega
            have hk4 : (4 * (k : Int)) % 4294967296 = 4 * k := by omega
            have hk1 : (k : Int) % 4294967296 = k := by omega
            have HW := Lib.hid (rword_c wr rm rg f (base + 4 * k) HMX.out)
            rw [HOKR.out] at HBK
            generalize wordS f (base + 4 * k) = z at *
            obtain ⟨x, ok⟩ := z
            dsimp only at HW HBK
            go_wp2_with fail
            refine (HW.out).mono ?_
            rintro e w2 ⟨rfl, q2, rfl⟩
            have HOY := Lib.hid (HOX.out.trans ((Only.refl (fun _ => False) wr).drewN q2) (fun _ _ h => h))
            cases ok
            · go_wp2_with fail
              exact ⟨⟨k + 1, by omega, by go_num, by rw [HBK.out]; rfl, HOY.out⟩, by simp [intOf]; omega⟩
            · by_cases h31 : base + 4 * (k : Int) < 131072
              · have h31' : decide (base + 4 * (k : Int) < 131072) = true := decide_eq_true h31
                rw [h31'] at HBK
                go_wp2_with fail
                exact ⟨⟨k + 1, by omega, by go_num, by rw [HBK.out]; rfl, HOY.out⟩, by simp [intOf]; omega⟩
              · have h31' : decide (base + 4 * (k : Int) < 131072) = false := decide_eq_false h31
                rw [h31'] at HBK
                go_wp2_with fail
                exact ⟨⟨k + 1, by omega, by go_num, by rw [HBK.out]; rfl, HOY.out⟩, by simp [intOf]; omega⟩
          · have hkk : n = k := by omega
            subst hkk
            have HBN := Lib.hid HBE.out
            clear HBK HBWk HBMk HBE HBM HBS hlt hkn
            have HCX := Lib.hid (HCR.out.only HOX.out id)
            have HWX := Lib.hid (HWR.out.only HOX.out id)
            have HOI := Lib.hid (HO.out.only HOX.out (fun _ h => h.elim))
            have HOA := Lib.hid (HOR.out.trans HOX.out (fun _ _ h => h))
            obtain ⟨wy, rfl⟩ : ∃ wy, wy = wr := ⟨_, rfl⟩
            clear HCR HWR HMR HO HOR HOKR q13 HP0 HJ4 j4
            go_wp2_with fail
            go_loopw [16, 17, 41] (fun nx co i wx => ∃ k : Nat, k ≤ n ∧ nx = .int .u32 ((pc0 + 2) % 4294967296) ∧ co = .int .i64 (1 + n) ∧ i = .int .i64 k ∧ Mm wx 78 rm rg (storeUp f base c.R ls k) ∧ Only (fun j => j = rg) wy wx) (fun _ _ i _ => n - (intOf i).toNat)
            case atStart => exact ⟨0, by omega, rfl, rfl, rfl, HMX.out, Only.refl _ _⟩
            case round =>
              obtain ⟨k, hkn, rfl, rfl, rfl, hm, ho⟩ := hrel
              have HMK := Lib.hid hm; have HOY := Lib.hid ho
              have HCK := Lib.hid (HCX.out.only ho (fun e => a2 e.symm))
              have HWK := Lib.hid (HWX.out.only ho (fun e => a4 e.symm))
              have hrgl : rg < wA.heap.size := by obtain ⟨_, cs, h, _⟩ := HMA.out; exact h.lt
              have HOIK := Lib.hid (HOI.out.only ho (fun j e => by have e' : j = rg := e; rw [e']; exact hrgl))
              have j0 : wr.cell? ⟨ip, 0, none⟩ = some (.int .i64 39) := by
                rw [((HOA.out.mono (T := fun j => j = rg) (fun _ _ h => h.elim)).trans ho (fun _ _ h => h)).cell (p := ⟨ip, 0, none⟩) HIB.out.lt (by obtain ⟨_, cs, h, _⟩ := HMA.out; exact HIB.out.ne h (by decide))]
                have := HIB.out.cell 0
                simpa using this
              have HSU : Hid (storeUp f base c.R ls (k + 1) = (setWordS (storeUp f base c.R ls k) (base + 4 * k) (c.R.getD (ls.getD k 0).toNat 0)).1) := rfl
              clear hm ho
              by_cases hlt : k < n
              · obtain ⟨x, hx⟩ : ∃ x, l[k]? = some x := ⟨_, List.getElem?_eq_getElem (by rw [HNN.out]; exact hlt)⟩
                obtain ⟨gl, rfl, cx⟩ := HOIK.out.cell hx
                have hxr := HLM.out x (List.mem_of_getElem? hx)
                have hgd : l.getD k 0 = x := by rw [List.getD_eq_getElem?_getD, hx]; rfl
                have hls := HLG.out k hlt
                rw [hgd] at hls
                obtain ⟨xn, rfl⟩ : ∃ xn : Nat, x = xn := ⟨x.toNat, by omega⟩
                obtain ⟨w0, w1⟩ := HBW.out k (HBL.out k HBN.out hkn)
                have hA : (base + 4 * (k : Int)) % 4294967296 = base + 4 * k := by omega
                have hk4 : (4 * (k : Int)) % 4294967296 = 4 * k := by omega
                have hk1 : (k : Int) % 4294967296 = k := by omega
                have hxi : (xn : Int) < 16 := by omega
                clear hx hgd
                generalize storeUp f base c.R ls k = F at *
                by_cases h8 : xn = 8
                · subst h8
                  rw [if_pos (show ((8 : Nat) : Int) = 8 from rfl)] at hls
                  rw [hls, show (14 : Int).toNat = 14 from rfl] at HSU
                  have cw := HWK.out.reg (k := 14) (by omega)
                  generalize c.R.getD 14 0 = vv at *
                  have HSW := Lib.hid (rsetword_c wr rm rg F (base + 4 * k) vv HMK.out)
                  clear hls
                  go_wp2_with fail
                  refine (HSW.out).mono ?_
                  rintro e w2 ⟨rfl, hm2, ho2⟩
                  rw [← HSU.out] at hm2
                  have HM2 := Lib.hid hm2
                  have HO2 := Lib.hid (HOY.out.trans ho2 (fun _ _ h => h))
                  clear hm2 ho2
                  go_wp2_with fail
                  exact ⟨⟨k + 1, by omega, rfl, rfl, by go_num, HM2.out, HO2.out⟩, by simp [intOf]; omega⟩
                · have h8i : ((xn : Int) == 8) = false := by simp; omega
                  rw [if_neg (by omega)] at hls
                  rw [hls, Int.toNat_natCast] at HSU
                  have cw := HWK.out.reg (k := xn) (by omega)
                  generalize c.R.getD xn 0 = vv at *
                  have HSW := Lib.hid (rsetword_c wr rm rg F (base + 4 * k) vv HMK.out)
                  clear hls h8
                  go_wp2_with fail
                  refine (HSW.out).mono ?_
                  rintro e w2 ⟨rfl, hm2, ho2⟩
                  rw [← HSU.out] at hm2
                  have HM2 := Lib.hid hm2
                  have HO2 := Lib.hid (HOY.out.trans ho2 (fun _ _ h => h))
                  clear hm2 ho2
                  go_wp2_with fail
                  exact ⟨⟨k + 1, by omega, rfl, rfl, by go_num, HM2.out, HO2.out⟩, by simp [intOf]; omega⟩
              · have hkk : n = k := by omega
                subst hkk
                have q13 := HCK.out.reg (k := 13) (by omega)
                have f13 := HCK.out.1.frozen 13
                clear HSU
                go_wp2_with fail
                have hO1 := (HOA.out.mono (T := fun j => j = rg) (fun _ _ h => h.elim)).trans HOY.out (fun _ _ h => h)
                have hO : Only (fun j => j = cp ∨ j = rg) wA (wr.setCell ⟨cp, 13, none⟩ (.int .u32 base)) := (hO1.mono (fun _ _ h => .inr h)).setCell (p := ⟨cp, 13, none⟩) (.inl (.inl rfl)) _
                have hO2 : Only (fun j => j = cp) wr (wr.setCell ⟨cp, 13, none⟩ (.int .u32 base)) := Only.setCell (p := ⟨cp, 13, none⟩) (Only.refl (fun j => j = cp) wr) (.inl rfl) _
                refine rmeet hJ rfl { c with R := c.R.set 13 base } (storeUp f base c.R ls n) ⟨by omega, by omega⟩ (HCK.out.setReg (k := 13) (by omega) ⟨hb0, hb1⟩) (HWK.out.only hO2 (fun e => hws2 e.symm)) (rm_only HMK.out hO2 a1 a2) hO (fun h => by cases h) (fun _ mp => ?_)
                obtain ⟨h1, h2⟩ := HPB.out mp
                rw [HBN.out, if_neg (by simp), h2] at h1
                have h3 : storeUp f base ({ (c.sp mp ⟨39, dn, nn', mn, imm, cond⟩).setR 13 base with touch := base, cost := 1 + (n : Int) } : Sp).c.R ls n = storeUp f base c.R ls n := by
                  refine storeUp_congr (fun k hk => ?_)
                  have h4 := HLG.out k hk
                  have h5 : l.getD k 0 ∈ l := by rw [List.getD_eq_getElem?_getD, List.getElem?_eq_getElem (by rw [HNN.out]; exact hk)]; exact List.getElem_mem _
                  have h6 := HLM.out _ h5
                  have h7 : (ls.getD k 0).toNat ≠ 13 ∧ (ls.getD k 0).toNat ≠ 15 := by
                    rw [h4]; split <;> omega
                  show ((c.R.set 15 _).set 13 base).getD _ 0 = _
                  rw [getD_neq _ h7.1.symm, getD_neq _ h7.2.symm]
                rw [h3] at h1
                refine sp_end hst hpc HF h1 rfl ?_ rfl rfl
                unfold Sp.setR Ch.sp
                dsimp only
                rw [hpc, List.set_comm _ _ (by decide)]
                rfl
        · have hn0 : 0 < n := by
            by_cases h : n = 0
            · subst h
              have : k = 0 := by omega
              subst this
              have h1 := HP0.out
              rw [HBE.out] at h1
              cases h1
            · omega
          have HBN := Lib.hid (HBMk.out (by first | trivial | rfl) hkn)
          have HCX := Lib.hid (HCR.out.only HOX.out id)
          have HWX := Lib.hid (HWR.out.only HOX.out id)
          have q13 := HCX.out.reg (k := 13) (by omega)
          have f13 := HCX.out.1.frozen 13
          clear HBK HBWk HBE HBW HBM HBS HBL HBMk
          by_cases hlt : (k : Int) < n
          all_goals
            go_wp2_with fail
            go_loopw [16, 17, 41] (fun nx co i wx => nx = .int .u32 ((pc0 + 2) % 4294967296) ∧ co = .int .i64 (1 + n) ∧ i = .int .i64 0 ∧ wx = wr) (fun _ _ _ _ => 0)
            case atStart => exact ⟨rfl, rfl, rfl, rfl⟩
            case round =>
              obtain ⟨rfl, rfl, rfl, rfl⟩ := hrel
              go_wp2_with fail
              have hO : Only (fun j => j = cp) wA (wr.setCell ⟨cp, 13, none⟩ (.int .u32 base)) := ((HOR.out.trans HOX.out (fun _ _ h => h)).mono (T := fun j => j = cp) (fun _ _ h => h.elim)).setCell (p := ⟨cp, 13, none⟩) (.inl rfl) _
              refine rmeet hJ rfl { c with R := c.R.set 13 base } f ⟨by omega, by omega⟩ (HCX.out.setReg (k := 13) (by omega) ⟨hb0, hb1⟩) (HWS.out.only hO (fun e => hws2 e.symm)) (rm_only HMA.out hO a1 a2) (hO.mono (fun _ _ h => .inl h)) (fun _ mp => ?_) (fun h => by cases h)
              have he := (HPB.out mp).1
              rw [HBN.out, if_pos rfl] at he
              exact stepS_bad hst (by rw [hpc]; exact HF.out) he rfl
end Go.Proofs.Ytpihjhfaeloapaa
