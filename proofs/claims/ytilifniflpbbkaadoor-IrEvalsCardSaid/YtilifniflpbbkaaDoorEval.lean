/- ir's Eval, on programs that may be. -/
import Derived.Test.YtilifniflpbbkaaDoorDo
import Derived.Deep.DeepCutAuto
namespace Go.Proofs.YtilifniflpbbkaaDoor
open Go.RowKit On
theorem ask_R (op a b : Int) (h : binS op = true) (ha : Wd.R a) : Wd.R (Wd.ask op a b) := by
  have h : op = 6 ∨ op = 7 ∨ op = 8 ∨ op = 9 ∨ op = 10 ∨ op = 11 ∨ op = 12 ∨ op = 13 ∨ op = 14 ∨ op = 19 ∨ op = 20 ∨ op = 21 := by
    have := of_decide_eq_true h; omega
  rcases h with rfl | rfl | rfl | rfl | rfl | rfl | rfl | rfl | rfl | rfl | rfl | rfl
  · exact Wd.T_range _
  · exact Wd.T_range _
  · exact Wd.T_range _
  · exact Wd.T_range _
  · exact Wd.T_range _
  · exact Wd.T_range _
  · exact Wd.T_range _
  · exact Wd.T_range _
  · exact Wd.sar_R a b ha
  · exact Wd.yes_R _
  · exact Wd.yes_R _
  · exact Wd.yes_R _
theorem oneS_R (op a : Int) : Wd.R (oneS op a) := by
  unfold oneS
  split
  · exact Wd.T_range _
  · split
    · exact Wd.T_range _
    · exact Wd.yes_R _
theorem all_set {xs : List Int} {p : Int → Prop} (h : ∀ x ∈ xs, p x) (k : Nat) {u : Int} (hu : p u) : ∀ x ∈ xs.set k u, p x := by
  intro x hx
  rcases List.mem_or_eq_of_mem_set hx with h1 | rfl
  · exact h x h1
  · exact hu
theorem getD_R {xs : List Int} (h : ∀ x ∈ xs, Wd.R x) (k : Nat) : Wd.R (xs.getD k 0) := by
  rw [List.getD_eq_getElem?_getD]
  by_cases hk : k < xs.length
  · rw [List.getElem?_eq_getElem hk]; exact h _ (List.getElem_mem hk)
  · rw [List.getElem?_eq_none (by omega)]; unfold Wd.R; simp
namespace Nd
def isTick : Nd → Bool
  | tick => true
  | _ => false
theorem step_R {w : World} {n : Nd} (hok : n.ok w) (hf : n.fieldsS = true) {xs : List Int} (h : ∀ x ∈ xs, Wd.R x) : ∀ x ∈ n.step xs, Wd.R x := by
  cases n with
  | const d u => exact all_set h _ hok
  | move d a => exact all_set h _ (getD_R h _)
  | bin op d a b => exact all_set h _ (ask_R op _ _ hf (getD_R h _))
  | un op d a => exact all_set h _ (oneS_R _ _)
  | choose d c a b => exact all_set h _ (by unfold Wd.choose; split <;> exact getD_R h _)
  | _ => exact h
theorem go_in {n : Nd} (hp : n.pure = true) {at_ : Int} {cnt : Nat} (h : (n.next at_).all (fun t => inS t (cnt : Int)) = true) (xs : List Int) : inS (n.go xs at_) cnt = true := by
  cases n <;> simp [pure] at hp <;> simp only [next, go] at h ⊢
  case goto t => simpa using h
  case branch c t =>
    by_cases e : t = at_ + 1
    · subst e; simp at h; split <;> exact h
    · rw [if_neg e] at h; simp at h; split
      · exact h.1
      · exact h.2
  all_goals simpa using h
theorem val_iface {n : Nd} (hp : n.pure = true) : ∃ u v, n.val = .iface u v ∧ ∀ w, (Instr.typeAssert (.iface u v) 26 49 true).run Tryd.prog w = .ok (.tuple #[.agg #[], .bool n.isTick]) w := by
  cases n <;> simp [pure] at hp
  all_goals exact ⟨_, _, rfl, fun w => by rw [taTick]; rfl⟩
end Nd
/-- one round -/
def rnd (l : List Nd) (s : List Int × Int × Int) : List Int × Int × Int :=
  ((l.getD s.2.1.toNat .none).step s.1, (l.getD s.2.1.toNat .none).go s.1 s.2.1, if (l.getD s.2.1.toNat .none).isTick then s.2.2 + 1 else s.2.2)
/-- rounds -/
def evalS (l : List Nd) : Nat → List Int × Int × Int → List Int × Int × Int
  | 0, s => s
  | k + 1, s => if (l.getD s.2.1.toNat .none).pure then evalS l k (rnd l s) else s
theorem own_mono {w : World} {base base' : Nat} {e : TypeId} {size : Nat} {v : Value} {n : Nat} {xs : List Value} (h : w.ownsRow base e size v n xs) (hb : base' ≤ base) : w.ownsRow base' e size v n xs := by
  refine ⟨h.1, ?_⟩
  rcases h.2 with h | ⟨g, cap, cur, h1, h0, h2⟩
  · exact .inl h
  · exact .inr ⟨g, cap, cur, h1, by omega, h2⟩
theorem Regs.ne {B : Nat} {w : World} {v : Value} {xs : List Int} {b : Nat} {cs : Array Value} (h : Regs B w v xs) (k : Blk w b 46 cs) : v.ownBlock ≠ some b := by
  intro he
  obtain ⟨A, c, rfl, ⟨rfl, _⟩ | ⟨g, cur, rfl, _, g1, _⟩⟩ := own_slice h
  · simp [Value.ownBlock] at he
  · simp [Value.ownBlock] at he
    exact g1.ne k (by decide) he
theorem Regs.base {B : Nat} {w : World} {v : Value} {xs : List Int} (h : Regs B w v xs) : ∀ k, v.ownBlock = some k → B ≤ k := by
  intro k hk
  obtain ⟨A, c, rfl, ⟨rfl, _⟩ | ⟨g, cur, rfl, hb, _⟩⟩ := own_slice h
  · simp [Value.ownBlock] at hk
  · simp [Value.ownBlock] at hk; omega
/-- what Eval hands back -/
def EvalAt (r : List Int × Int × Int) (w : World) (e : Ending) (w' : World) : Prop :=
  ∃ v, e = .returned (.tuple #[v, .int .i64 r.2.1, .int .i64 r.2.2]) ∧ Regs w.heap.size w' v r.1 ∧ Below w.heap.size w w'
set_option maxHeartbeats 16000000 in
set_option maxRecDepth 100000 in
theorem eval_c (params : Int) (A V : Option Addr) (c vc : Nat) (l : List Nd) (xs : List Int) (from_ most : Int) (hf : inS from_ l.length = true) (hm : most ≤ 100000) (w : World) (hl : Nodes w A l)
    (hc : CheckP params xs.length l) (hv : Ints .i32 w (.slice V xs.length vc) xs) (hR : ∀ x ∈ xs, Wd.R x) :
    Calls Tryd.prog 25 #[.agg #[.int .i64 params, .int .i64 xs.length, .slice A l.length c], .slice V xs.length vc, .int .i64 from_, .int .i64 most] w (EvalAt (evalS l most.toNat (xs, from_, 0)) w) := by
  have HB0 : Hid (Below w.heap.size w (w.alloc (.cells #[.int .i64 params, .int .i64 xs.length, .slice A l.length c] 46))) := (Below.refl _ _).alloc (Nat.le_refl _) _
  have KP := Lib.hid (Blk.new w 46 #[.int .i64 params, .int .i64 xs.length, .slice A l.length c])
  have HC := Lib.hid hc
  have HL := Lib.hid hl
  have HV := Lib.hid (hv.keep HB0.out)
  have HR := Lib.hid hR
  have HXL : Hid (xs.length ≤ 40) := by
    have h := hc.2.2.1; unfold inS at h; simp at h; show _ ≤ _; omega
  have hl2 : l.length ≤ 250 := hc.2.1
  have HF := Lib.hid hf
  clear hc hl hv hR hf
  go_enter Tryd.func25, Tryd.ntmps25
  go_wp2_with fail
  refine (check_c params xs.length A c l _ (HL.out.keep HB0.out)).mono ?_
  rintro e w1 ⟨b, rfl, hb1, hb2⟩
  have hbt : b = true := hb1.mpr HC.out
  subst hbt
  have HB1 := Lib.hid (HB0.out.trans (hb2.mono HB0.out.size))
  have kp := KP.out.only (S := fun _ => False) (Only.of_below hb2) id
  have KP1 := Lib.hid kp
  have HV1 := Lib.hid (HV.out.keep hb2)
  have p0 := kp.cell 0
  have p1 := kp.cell 1
  have p2 := kp.cell 2
  simp at p0 p1 p2
  clear hb1 hb2 kp KP HV HB0
  obtain ⟨nx, hnx⟩ : ∃ nx, xs.length = nx := ⟨_, rfl⟩
  have HNX := Lib.hid hnx
  rw [hnx] at p1 HV1 KP1 ⊢
  clear hnx
  go_wp2_with fail
  refine (cloneR_c _ _ xs (by have := HV1.out; rw [← HNX.out] at this; rw [← HNX.out]; exact this) (by have := HXL.out; omega)).mono ?_
  intro e w2 h
  obtain ⟨A2, c2, rfl, ho, hb⟩ := h
  have HR2 : Hid (Regs w.heap.size w2 (.slice A2 xs.length c2) xs) := own_mono ho HB1.out.size
  have HB2 := Lib.hid (HB1.out.trans (hb.mono HB1.out.size))
  have KP2 := Lib.hid (KP1.out.only (S := fun _ => False) (Only.of_below hb) id)
  clear ho hb p0 p1 p2 HV1 HB1 KP1
  rw [HNX.out]
  rw [HNX.out] at HR2
  go_wp2_with fail
  go_loopw [2, 12, 13] (fun s2 s12 s13 wx => ∃ (k : Nat) (ys : List Int) (a t : Int), (k : Int) ≤ 100000 ∧ s13 = .int .i64 k ∧ s2 = .int .i64 a ∧ s12 = .int .i64 t ∧ 0 ≤ t ∧ t ≤ k ∧ evalS l (most.toNat - k) (ys, a, t) = evalS l most.toNat (xs, from_, 0) ∧ inS a l.length = true ∧ ys.length = nx ∧ (∀ x ∈ ys, Wd.R x) ∧
    Regs w.heap.size wx (.slice A2 nx c2) ys ∧ Blk wx w.heap.size 46 #[.int .i64 params, .int .i64 nx, .slice A l.length c] ∧ Below w.heap.size w wx) (fun _ _ i _ => 100000 - (intOf i).toNat)
  case atStart => exact ⟨0, xs, from_, 0, by omega, rfl, rfl, rfl, by omega, by omega, rfl, HF.out, HNX.out, HR.out, HR2.out, KP2.out, HB2.out⟩
  case round =>
    clear HR2 KP2 HB2 HF HR
    obtain ⟨k, ys, a, t, hk, rfl, rfl, rfl, ht0, htk, hev, ha, hlen, hR, hr, hp, hb⟩ := hrel
    have HEV := Lib.hid hev; have HA := Lib.hid ha; have HLEN := Lib.hid hlen; have HRY := Lib.hid hR; have HRG := Lib.hid hr; have HP := Lib.hid hp; have HB := Lib.hid hb
    have p0 := hp.cell 0
    have p1 := hp.cell 1
    have p2 := hp.cell 2
    simp at p0 p1 p2
    obtain ⟨a, rfl, hal⟩ := inS_nat ha
    obtain ⟨hok, g, o, rfl, hck⟩ := (HL.out.keep hb) a _ (List.getElem?_eq_getElem hal)
    have HOK := Lib.hid hok
    have HRS : Hid ((l[a]'hal).rightS nx l.length a = true) := by have := HC.out.2.2.2.2.2 a _ (List.getElem?_eq_getElem hal); rw [HNX.out] at this; exact this
    have HGD : Hid (l.getD a .none = l[a]'hal) := by show _ = _; rw [List.getD_eq_getElem?_getD, List.getElem?_eq_getElem hal]; rfl
    clear hev ha hlen hR hr hp hb hok
    by_cases hlt : (k : Int) < most
    · go_wp2_with fail
      refine (in_c (a : Int) l.length _).mono ?_
      rintro e w' ⟨rfl, rfl⟩
      rw [HA.out]
      generalize l[a]'hal = n at *
      have hnv := hck
      go_wp2_with fail
      refine (pure_c n _).mono ?_
      rintro e w' ⟨rfl, rfl⟩
      cases hpn : n.pure
      · have HPN := Lib.hid hpn
        clear hpn
        go_wp2_with fail
        go_ret3
        have he : evalS l (most.toNat - k) (ys, (a : Int), t) = (ys, (a : Int), t) := by
          cases hq : most.toNat - k with
          | zero => rfl
          | succ q => unfold evalS; rw [show l.getD ((a : Int)).toNat .none = n from by rw [Int.toNat_natCast]; exact HGD.out, HPN.out]; rfl
        have hee := HEV.out
        rw [he] at hee
        rw [← hee]
        exact ⟨_, rfl, by rw [← HLEN.out] at HRG; rw [← HLEN.out]; exact HRG.out, HB.out⟩
      · obtain ⟨u, vv, hval, hta⟩ := Nd.val_iface hpn
        have hdo := fun wq hv => do_c n hpn l.length w.heap.size (.slice A2 nx c2) ys a (by omega) (by omega) (by rw [HLEN.out]; exact HRS.out) wq hv HRY.out
        have HDO := Lib.hid hdo
        have HIN : Hid (inS (n.go ys a) l.length = true) := by
          have := HRS.out
          unfold Nd.rightS at this
          simp only [Bool.and_eq_true] at this
          exact Nd.go_in hpn this.1.2 ys
        have HFS : Hid (n.fieldsS = true) := by
          have := HRS.out
          unfold Nd.rightS at this
          simp only [Bool.and_eq_true] at this
          exact this.1.1.1
        have HNR : Hid (∀ x ∈ n.step ys, Wd.R x) := Nd.step_R HOK.out HFS.out HRY.out
        have HSL : Hid ((n.step ys).length = nx) := by show _ = _; rw [Nd.step_len]; exact HLEN.out
        have HNE : Hid (evalS l (most.toNat - (k + 1)) (n.step ys, n.go ys a, if n.isTick then t + 1 else t) = evalS l most.toNat (xs, from_, 0)) := by
          show _ = _
          rw [← HEV.out]
          have hq : most.toNat - k = (most.toNat - (k + 1)) + 1 := by omega
          rw [hq]
          conv => rhs; unfold evalS
          have hg : l.getD ((a : Int)).toNat .none = n := by rw [Int.toNat_natCast]; exact HGD.out
          rw [hg, if_pos hpn]
          unfold rnd
          rw [hg]
        clear hdo HRS HGD hpn HEV HFS HOK
        rw [hval] at hck HDO
        rw [hval]
        have hal2 : (a : Int) < 100000 := by omega
        generalize n.isTick = tk at *
        generalize n.step ys = zs at *
        generalize n.go ys a = a2 at *
        have ht2 : Hid (0 ≤ (if tk = true then t + 1 else t) ∧ (if tk = true then t + 1 else t) ≤ k + 1) := by
          show _ ∧ _; split <;> omega
        clear hnv hval
        cases tk
        all_goals
          go_wp2_with fail
          refine (HDO.out _ (HRG.out.only ((Only.refl (fun _ => False) _).alloc _) (fun _ _ => id))).mono ?_
          rintro e w5 ⟨rfl, hr5, hO5⟩
          have HR5 := Lib.hid hr5
          have hO6 : Only (fun k => (Value.slice A2 nx c2).ownBlock = some k) wr w5 := ((Only.refl _ wr).alloc _).trans hO5 (fun _ _ h => h)
          have HB5 : Hid (Below w.heap.size w w5) := HB.out.trans (hO6.below HB.out.size HRG.out.base)
          have HP5 := Lib.hid (HP.out.only hO6 (HRG.out.ne HP.out))
          clear hr5 hO5 hO6 p0 p1 p2 hck HDO hta
          go_wp2_with fail
          go_roundw
          case rel => exact ⟨k + 1, zs, a2, _, by omega, by go_num, rfl, rfl, ht2.out.1, by have := ht2.out.2; omega, HNE.out, HIN.out, HSL.out, HNR.out, HR5.out, HP5.out, HB5.out⟩
          case measure => simp [intOf]; omega
    · go_wp2_with fail
      go_ret3
      have he : evalS l (most.toNat - k) (ys, (a : Int), t) = (ys, (a : Int), t) := by
        rw [show most.toNat - k = 0 by omega]; rfl
      have hee := HEV.out
      rw [he] at hee
      rw [← hee]
      exact ⟨_, rfl, by rw [← HLEN.out] at HRG; rw [← HLEN.out]; exact HRG.out, HB.out⟩
end Go.Proofs.YtilifniflpbbkaaDoor
