/- Stacks: what ChipStacks' code does: plain. -/
import Derived.Test.YtpihjhfaeloapaaQr
namespace Go.Proofs.Ytpihjhfaeloapaa
open Go.RowKit On Th
theorem getD_set_eq {R : List Int} {k : Nat} (x : Int) (h : k < R.length) : (R.set k x).getD k 0 = x := by
  rw [List.getD_eq_getElem?_getD, List.getElem?_set_self h]; rfl
theorem getD_set_ne {R : List Int} {k j : Nat} (x : Int) (h : k ≠ j) : (R.set k x).getD j 0 = R.getD j 0 := by
  rw [List.getD_eq_getElem?_getD, List.getElem?_set_ne h, ← List.getD_eq_getElem?_getD]
theorem sp_two (mp : Value) (R : List Int) (nf zf cf vf : Bool) (st num cyc p : Int) (i : Ins) (hi : i.op ≠ 43) (h15 : R.getD 15 0 = p) :
    (⟨R, nf, zf, cf, vf, st, num, cyc⟩ : Ch).sp mp i = ⟨⟨R.set 15 ((p + 2) % 4294967296), nf, zf, cf, vf, st, num, cyc⟩, mp, i, p, -1, 1, false⟩ := by
  unfold Ch.sp
  dsimp only
  rw [if_neg hi, h15]
theorem svc_step (mp : Value) (R : List Int) (nf zf cf vf : Bool) (num cyc p x : Int) (f : Nat → Int) (h15 : R.getD 15 0 = p) (hf : fetchS f p = (⟨44, 0, 0, 0, x, 0⟩, 1, 0)) :
    stepS mp ⟨R, nf, zf, cf, vf, 0, num, cyc⟩ f = (⟨R.set 15 ((p + 2) % 4294967296), nf, zf, cf, vf, 1, x, wrap64 (cyc + 1)⟩, f, [⟨4, p, -1, 1⟩]) := by
  have hs := sp_two mp R nf zf cf vf 0 num cyc p ⟨44, 0, 0, 0, x, 0⟩ (by show (44 : Int) ≠ 43; decide) h15
  have hx : ((⟨R, nf, zf, cf, vf, 0, num, cyc⟩ : Ch).sp mp ⟨44, 0, 0, 0, x, 0⟩).exec f = (⟨⟨R.set 15 ((p + 2) % 4294967296), nf, zf, cf, vf, 1, x, cyc⟩, mp, ⟨44, 0, 0, 0, x, 0⟩, p, -1, 1, false⟩, f) := by
    rw [hs]; rfl
  have := stepS_ok (mp := mp) (c := ⟨R, nf, zf, cf, vf, 0, num, cyc⟩) rfl (by show fetchS f (R.getD 15 0) = _; rw [h15]; exact hf) hx rfl
  rw [this]
  dsimp only
  rw [h15]
theorem sk_run1 (mp : Value) (l base : Int) (R : List Int) (h0 : 1 ≤ l) (h1 : l ≤ 255) (hlen : R.length = 16) (h15 : R.getD 15 0 = 0) (h13 : R.getD 13 0 = base) (hb0 : 131200 ≤ base) (hb1 : base ≤ 262144) (hb2 : base % 4 = 0) :
    ∃ cyc evs, runUp mp ⟨R, false, false, false, false, 0, 0, 0⟩ (SKF l) 9 =
      (⟨((R.set 15 2).set 13 (base - 4 * (bitsTo l 8).length)).set 15 4, false, false, false, false, 1, 1, cyc⟩,
       storeUp (SKF l) (base - 4 * (bitsTo l 8).length) ((R.set 15 2).set 13 (base - 4 * (bitsTo l 8).length)) (bitsTo l 8) (bitsTo l 8).length, evs) := by
  have hn : (bitsTo l 8).length ≤ 8 := bitsTo_len l 8
  obtain ⟨hf0, hf2, _, _⟩ := sk_fetch l h0 h1
  have hls := listS_small l 14 h0 h1
  generalize hL : bitsTo l 8 = L at *
  obtain ⟨b, hb⟩ : ∃ b, base - 4 * (L.length : Int) = b := ⟨_, rfl⟩
  rw [hb]
  have hs := sp_two mp R false false false false 0 0 0 0 ⟨39, 0, 0, 0, l, 0⟩ (by show (39 : Int) ≠ 43; decide) h15
  have hx := exec_push mp ⟨R, false, false, false, false, 0, 0, 0⟩ (SKF l) l
  rw [hs] at hx
  have ok : ∀ k : Nat, k < L.length → okSW (b + 4 * k) = true := fun k hk => by rw [okSW_iff]; omega
  have hbad := badUp_no ok
  have hpb : pushBase ⟨⟨R.set 15 ((0 + 2) % 4294967296), false, false, false, false, 0, 0, 0⟩, mp, ⟨39, 0, 0, 0, l, 0⟩, 0, -1, 1, false⟩ = b := by
    unfold pushBase
    dsimp only
    rw [hls, getD_set_ne _ (by decide), h13]
    omega
  have hp : (⟨⟨R.set 15 ((0 + 2) % 4294967296), false, false, false, false, 0, 0, 0⟩, mp, ⟨39, 0, 0, 0, l, 0⟩, 0, -1, 1, false⟩ : Sp).push = ⟨⟨(R.set 15 2).set 13 b, false, false, false, false, 0, 0, 0⟩, mp, ⟨39, 0, 0, 0, l, 0⟩, 0, b, 1 + L.length, false⟩ := by
    unfold Sp.push Sp.push0
    rw [hpb]
    unfold Sp.setR
    dsimp only
    rw [hls, hbad]
    rfl
  have hF : pushF ⟨⟨R.set 15 ((0 + 2) % 4294967296), false, false, false, false, 0, 0, 0⟩, mp, ⟨39, 0, 0, 0, l, 0⟩, 0, -1, 1, false⟩ (SKF l) = storeUp (SKF l) b ((R.set 15 2).set 13 b) L L.length := by
    unfold pushF Sp.push0
    rw [hpb]
    unfold Sp.setR
    dsimp only
    rw [hls, hbad, if_neg (by decide)]
    rfl
  rw [hp, hF, ← hs] at hx
  have e1 := stepS_ok (mp := mp) (c := ⟨R, false, false, false, false, 0, 0, 0⟩) rfl (by show fetchS (SKF l) (R.getD 15 0) = _; rw [h15]; exact hf0) hx rfl
  have g15 : ((R.set 15 2).set 13 b).getD 15 0 = 2 := by rw [getD_set_ne _ (by decide), getD_set_eq _ (by omega)]
  have hf2' : fetchS (storeUp (SKF l) b ((R.set 15 2).set 13 b) L L.length) 2 = (⟨44, 0, 0, 0, 1, 0⟩, 1, 0) := ((storeUp_low (SKF l) b _ L L.length).fetch 2).trans hf2
  have e2 := svc_step mp ((R.set 15 2).set 13 b) false false false false 0 (wrap64 (0 + (1 + L.length))) 2 1 _ g15 hf2'
  have r1 := runUp_succ mp ⟨R, false, false, false, false, 0, 0, 0⟩ (SKF l) 0 rfl e1
  have r2 := runUp_succ mp ⟨R, false, false, false, false, 0, 0, 0⟩ (SKF l) 1 r1 e2
  exact ⟨_, _, runUp_stop mp _ _ 2 9 (by omega) r2 (by show (1 : Int) ≠ 0; decide)⟩
theorem sk_run2 (mp : Value) (l base num cyc : Int) (R : List Int) (F : Nat → Int) (v : Nat → Int) (h0 : 1 ≤ l) (h1 : l ≤ 255) (hlen : R.length = 16) (h15 : R.getD 15 0 = 4) (h13 : R.getD 13 0 = base - 4 * (bitsTo l 8).length) (hb0 : 131200 ≤ base) (hb1 : base ≤ 262144)
    (hlow : Low (SKF l) F) (hw : ∀ k : Nat, k < (bitsTo l 8).length → wordS F (base - 4 * (bitsTo l 8).length + 4 * k) = (v k, true)) :
    ∃ cy evs, runUp mp ⟨R, false, false, false, false, 0, num, cyc⟩ F 9 =
      (⟨((setUp (R.set 15 6) (bitsTo l 8) v (bitsTo l 8).length).set 13 base).set 15 8, false, false, false, false, 1, 2, cy⟩, F, evs) := by
  have hn : (bitsTo l 8).length ≤ 8 := bitsTo_len l 8
  obtain ⟨_, _, hf4, hf6⟩ := sk_fetch l h0 h1
  have hls := listS_small l 15 h0 h1
  have hmem : ∀ k : Nat, k < (bitsTo l 8).length → 0 ≤ (bitsTo l 8).getD k 0 ∧ (bitsTo l 8).getD k 0 < 8 := fun k hk => by
    have := bitsTo_mem l 8 ((bitsTo l 8).getD k 0) (by rw [List.getD_eq_getElem?_getD, List.getElem?_eq_getElem hk]; exact List.getElem_mem hk)
    exact this
  generalize hL : bitsTo l 8 = L at *
  obtain ⟨b, hb⟩ : ∃ b, base - 4 * (L.length : Int) = b := ⟨_, rfl⟩
  rw [hb] at h13 hw
  have hs := sp_two mp R false false false false 0 num cyc 4 ⟨40, 0, 0, 0, l, 0⟩ (by show (40 : Int) ≠ 43; decide) h15
  have hx := exec_pop mp ⟨R, false, false, false, false, 0, num, cyc⟩ F l
  rw [hs] at hx
  have e6 : ((4 : Int) + 2) % 4294967296 = 6 := by decide
  rw [e6] at hx hs
  have g13 : (R.set 15 6).getD 13 0 = b := by rw [getD_set_ne _ (by decide), h13]
  have hE : (⟨⟨R.set 15 6, false, false, false, false, 0, num, cyc⟩, mp, ⟨40, 0, 0, 0, l, 0⟩, 4, -1, 1, false⟩ : Sp).popE F = ⟨⟨setUp (R.set 15 6) L v L.length, false, false, false, false, 0, num, cyc⟩, mp, ⟨40, 0, 0, 0, l, 0⟩, 4, b, 1 + L.length, false⟩ := by
    unfold Sp.popE Sp.pop0
    dsimp only
    rw [hls, g13, popUp_regs hw (fun k hk => by have := hmem k hk; omega)]
  have h13' : (setUp (R.set 15 6) L v L.length).getD 13 0 = b := by
    rw [setUp_out (fun k hk => by have := hmem k hk; omega), g13]
  have hp : (⟨⟨R.set 15 6, false, false, false, false, 0, num, cyc⟩, mp, ⟨40, 0, 0, 0, l, 0⟩, 4, -1, 1, false⟩ : Sp).pop F = ⟨⟨(setUp (R.set 15 6) L v L.length).set 13 base, false, false, false, false, 0, num, cyc⟩, mp, ⟨40, 0, 0, 0, l, 0⟩, 4, b, 1 + L.length, false⟩ := by
    unfold Sp.pop
    rw [hE]
    unfold Sp.setR
    dsimp only
    rw [hls, h13', show (b + 4 * (L.length : Int)) % 4294967296 = base by omega]
  rw [hp, ← hs] at hx
  have e1 := stepS_ok (mp := mp) (c := ⟨R, false, false, false, false, 0, num, cyc⟩) rfl (by show fetchS F (R.getD 15 0) = _; rw [h15]; exact (hlow.fetch 4).trans hf4) hx rfl
  have g15 : ((setUp (R.set 15 6) L v L.length).set 13 base).getD 15 0 = 6 := by
    rw [getD_set_ne _ (by decide), setUp_out (fun k hk => by have := hmem k hk; omega), getD_set_eq _ (by omega)]
  have e2 := svc_step mp ((setUp (R.set 15 6) L v L.length).set 13 base) false false false false num (wrap64 (cyc + (1 + L.length))) 6 2 F g15 ((hlow.fetch 6).trans hf6)
  have e8 : ((6 : Int) + 2) % 4294967296 = 8 := by decide
  rw [e8] at e2
  have r1 := runUp_succ mp ⟨R, false, false, false, false, 0, num, cyc⟩ F 0 rfl e1
  have r2 := runUp_succ mp ⟨R, false, false, false, false, 0, num, cyc⟩ F 1 r1 e2
  exact ⟨_, _, runUp_stop mp _ _ 2 9 (by omega) r2 (by show (1 : Int) ≠ 0; decide)⟩
end Go.Proofs.Ytpihjhfaeloapaa
