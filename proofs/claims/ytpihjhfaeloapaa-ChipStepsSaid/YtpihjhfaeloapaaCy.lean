/- MERGED by mergech.py: XCl XCz XCy. -/
import Derived.Test.YtpihjhfaeloapaaVi
import Derived.Test.YtpihjhfaeloapaaVj
import Derived.Test.YtpihjhfaeloapaaVf
namespace Go.Proofs.Ytpihjhfaeloapaa
open Go.RowKit On Th
/-- a new chip -/
def Ch0 : Ch := ⟨[0, 0, 0, 0, 0, 0, 0, 0, 0, 0, 0, 0, 0, 0, 0, 0], false, false, false, false, 0, 0, 0⟩
theorem Ch0_ok : Ch0.ok := ⟨rfl, by intro x hx; simp [Ch0] at hx; subst hx; unfold U; omega⟩
set_option maxRecDepth 100000 in
theorem chipNew_c (w : World) : Calls Try.prog 12 #[] w fun e w' => e = .returned (.pointer (some ⟨w.heap.size, 0, none⟩)) ∧ ChW w' w.heap.size Ch0 ∧ Below w.heap.size w w' := by
  go_enter Try.func12, Try.ntmps12
  go_wp2
  go_ret
  exact ⟨rfl, ⟨Blk.new _ _ _, Ch0_ok⟩, (Below.refl _ _).alloc (Nat.le_refl _) _⟩
/-- instructions in memory -/
def InsL (w : World) (A : Option Addr) (is : List Ins) : Prop := ∀ (k : Nat) (i : Ins), is[k]? = some i → ∃ g o, A = some ⟨g, o, none⟩ ∧ w.cell? ⟨g, o + k * 6, none⟩ = some (.int .i64 i.op) ∧ w.cell? ⟨g, o + k * 6 + 1, none⟩ = some (.int .i64 i.d) ∧ w.cell? ⟨g, o + k * 6 + 2, none⟩ = some (.int .i64 i.n) ∧
  w.cell? ⟨g, o + k * 6 + 3, none⟩ = some (.int .i64 i.m) ∧ w.cell? ⟨g, o + k * 6 + 4, none⟩ = some (.int .i64 i.imm) ∧ w.cell? ⟨g, o + k * 6 + 5, none⟩ = some (.int .i64 i.cond)
theorem InsL.keep {w w' : World} {A : Option Addr} {is : List Ins} (h : InsL w A is) (hb : Below w.heap.size w w') : InsL w' A is := fun k i hk => by
  obtain ⟨g, o, h1, c0, c1, c2, c3, c4, c5⟩ := h k i hk
  have key : ∀ (p : Addr) (v : Value), w.cell? p = some v → w'.cell? p = some v := fun p v hp => by
    rw [hb.cell (World.block_lt_of_cell? _ _ hp)]; exact hp
  exact ⟨g, o, h1, key _ _ c0, key _ _ c1, key _ _ c2, key _ _ c3, key _ _ c4, key _ _ c5⟩
def flatE (is : List Ins) : List Int := is.flatMap encL
theorem flatE_snoc (is : List Ins) (i : Ins) : flatE (is ++ [i]) = flatE is ++ encL i := by simp [flatE]
theorem flatE_range {is : List Ins} (h : ∀ i ∈ is, rightS i = true) : (∀ x ∈ flatE is, 0 ≤ x ∧ x ≤ 65535) ∧ (flatE is).length ≤ 2 * is.length := by
  induction is with
  | nil => simp [flatE]
  | cons i t ih =>
    obtain ⟨h1, h2⟩ := ih (fun j hj => h j (List.mem_cons_of_mem _ hj))
    obtain ⟨r1, r2⟩ := enc_range i (h i List.mem_cons_self)
    have e : flatE (i :: t) = encL i ++ flatE t := by simp [flatE]
    rw [e]
    refine ⟨fun x hx => ?_, ?_⟩
    · rcases List.mem_append.mp hx with hx | hx
      · have := r1 x hx; omega
      · exact h1 x hx
    · rw [List.length_append, List.length_cons]
      rcases r2 with r2 | r2 <;> omega
theorem Hw.src {w : World} {A : Option Addr} {n c : Nat} {hs : List Int} (h : Hw w (.slice A n c) hs) : Src w A n 1 (hs.map (Value.int .u16)) := by
  obtain ⟨A', c', e, hc⟩ := h
  injection e with e1 e2 e3
  subst e1; subst e2; subst e3
  refine ⟨by simp, ?_, ?_, ?_⟩
  · rintro rfl
    cases hs with
    | nil => rfl
    | cons x xs => obtain ⟨_, _, g, o, e, _⟩ := hc 0 x rfl; cases e
  · rintro ad rfl j u hu
    rw [List.getElem?_map, Option.map_eq_some_iff] at hu
    obtain ⟨y, hy, rfl⟩ := hu
    obtain ⟨_, _, g, o, e, hcell⟩ := hc j y hy
    injection e with e; subst e
    rw [show (⟨g, o, none⟩ : Addr).add j = ⟨g, o + j, none⟩ by unfold Addr.add; split <;> simp_all]
    exact hcell
  · intro u hu; rw [List.mem_map] at hu; obtain ⟨y, _, rfl⟩ := hu; rfl
theorem own_hs {w : World} {base n c : Nat} {A : Option Addr} {xs : List Int} (h : w.ownsRow base 79 1 (.slice A n c) n (xs.map (Value.int .u16))) (hr : ∀ x ∈ xs, 0 ≤ x ∧ x ≤ 65535) : Hs w A n xs := by
  have hn : n = xs.length := by have := h.1; simpa using this.symm
  subst hn
  have hw := own_hw h (fun x hx => by have := hr x hx; omega)
  obtain ⟨A', c', e, hc⟩ := hw
  injection e with e1 _ _
  subst e1
  refine ⟨rfl, hr, ?_, fun b o s i hA hi => ?_⟩
  · rintro rfl
    cases xs with
    | nil => rfl
    | cons x xs => obtain ⟨_, _, g, o, e, _⟩ := hc 0 x rfl; cases e
  · obtain ⟨_, _, g, o', e, hcell⟩ := hc i _ (List.getElem?_eq_getElem hi)
    rw [hA] at e
    injection e with e
    injection e with e1 e2 e3
    subst e1; subst e2; subst e3
    refine ⟨?_, rfl, World.block_lt_of_cell? _ _ hcell⟩
    rw [hcell, List.getD_eq_getElem?_getD, List.getElem?_eq_getElem hi]
    rfl
set_option maxHeartbeats 8000000 in
set_option maxRecDepth 100000 in
theorem load_c (w : World) (at_ : Int) (A : Option Addr) (c : Nat) (is : List Ins) (hI : InsL w A is) (hr : ∀ i ∈ is, rightS i = true) (hlen : is.length ≤ 100) (hat : canLoad at_ (flatE is).length) :
    Calls Try.prog 28 #[.int .i64 at_, .slice A is.length c] w fun e w' => ∃ m g, e = .returned (.pointer (some ⟨m, 0, none⟩)) ∧ MW w' m g (loadB (fun _ => 0) at_.toNat (flatE is) (flatE is).length) ∧ w.heap.size ≤ m ∧ w.heap.size ≤ g ∧ Below w.heap.size w w' := by
  obtain ⟨i0, hi0, hz0, hz1, hz2⟩ := info_parts2 info_u16
  have HI := Lib.hid hI; have HR := Lib.hid hr; have HAT := Lib.hid hat
  have HFR := Lib.hid (flatE_range hr)
  clear hI hr hat
  obtain ⟨n, hn⟩ : ∃ n, is.length = n := ⟨_, rfl⟩
  have HN := Lib.hid hn
  rw [hn] at hlen ⊢
  clear hn
  go_enter Try.func28, Try.ntmps28
  go_wp2_with fail
  refine (memNew_c _).mono ?_
  rintro e w1 ⟨m, g, rfl, hm, hm1, hg1, hb1⟩
  have HM1 : Hid (MW w1 m g (fun _ => 0)) := hm
  have HB1 := Lib.hid hb1
  have HG := Lib.hid (show g < w1.heap.size by obtain ⟨_, cs, hc, _⟩ := hm; exact hc.lt)
  have HML := Lib.hid hm.1.lt
  clear hm hb1
  go_wp2_with fail
  go_loopw [6, 7] (fun s6 s7 wx => ∃ (k : Nat) (B : Option Addr) (d q : Nat), k ≤ n ∧ s7 = .int .i64 k ∧ s6 = .slice B q d ∧ wx.ownsRow w1.heap.size 79 1 (.slice B q d) q ((flatE (is.take k)).map (Value.int .u16)) ∧ q ≤ 2 * k ∧ Below w1.heap.size w1 wx) (fun _ i _ => n - (intOf i).toNat)
  case atStart => exact ⟨0, none, 0, 0, Nat.zero_le _, rfl, rfl, World.ownsRow_nil _ _ _ _, by omega, Below.refl _ _⟩
  case round =>
    obtain ⟨k, B, d, q, hk, rfl, rfl, ho, hq, hb⟩ := hrel
    have HO := Lib.hid ho; have HB := Lib.hid hb
    have HIX := Lib.hid ((HI.out.keep HB1.out).keep hb)
    have hsw : w1.heap.size ≤ wr.heap.size := hb.size
    clear ho hb
    by_cases hlt : k < n
    · obtain ⟨i, hi⟩ : ∃ i, is[k]? = some i := ⟨_, List.getElem?_eq_getElem (by rw [HN.out]; exact hlt)⟩
      obtain ⟨gi, oi, rfl, c0, c1, c2, c3, c4, c5⟩ := HIX.out k i hi
      have hri := HR.out i (List.mem_of_getElem? hi)
      have HE := Lib.hid (refEncode_c i hri wr)
      have HER := Lib.hid (enc_range i hri)
      have HTK : Hid (flatE (is.take (k + 1)) = flatE (is.take k) ++ encL i) := by
        show _ = _
        rw [← flatE_snoc]
        congr 1
        obtain ⟨hk', rfl⟩ := List.getElem?_eq_some_iff.mp hi
        exact List.take_succ_eq_append_getElem hk'
      have hki : (k : Int) < (n : Int) := by omega
      clear hi hri
      obtain ⟨op, dd, nn, mm, imm, cond⟩ := i
      dsimp only at c0 c1 c2 c3 c4 c5 HE
      go_wp2_with fail
      refine (HE.out).mono ?_
      rintro e w2 ⟨sv, rfl, hw2, hb2⟩
      obtain ⟨A2, d2, rfl⟩ : ∃ A2 d2, sv = .slice A2 (encL ⟨op, dd, nn, mm, imm, cond⟩).length d2 := by obtain ⟨A2, d2, e, _⟩ := hw2; exact ⟨A2, d2, e⟩
      have HSR := Lib.hid hw2.src
      have hel : 1 ≤ (encL ⟨op, dd, nn, mm, imm, cond⟩).length ∧ (encL ⟨op, dd, nn, mm, imm, cond⟩).length ≤ 2 := by
        rcases HER.out.2 with h | h <;> omega
      obtain ⟨hel1, hel2⟩ := hel
      have HNO : Hid (A2 = none → d2 = 0) := fun e => by have := HSR.out.none_ e; omega
      have HO2 := Lib.hid (own_only HO.out (Only.of_below (S := fun _ => False) hb2) (fun _ _ => id))
      have HB2 := Lib.hid (HB.out.trans (hb2.mono HB.out.size))
      have hsw2 : w1.heap.size ≤ w2.heap.size := HB2.out.size
      generalize encL ⟨op, dd, nn, mm, imm, cond⟩ = el at *
      clear hw2 hb2 c0 c1 c2 c3 c4 c5 HE HER
      obtain ⟨en, hen⟩ : ∃ en, el.length = en := ⟨_, rfl⟩
      rw [hen] at hel1 hel2 HSR ⊢
      clear hen
      go_wp2_with (at_builtin; go_loud (refine wpList_append_at _ rfl (.tmp 17) (.tmp 22) _ rfl w1.heap.size 79 i0 _ 1 2 Try.underlying24 hi0 hz0 hz1 hz2 rfl (by omega) _ q ((flatE (is.take k)).map (Value.int .u16)) rfl HO2.out A2 en d2 (el.map (Value.int .u16)) rfl HSR.out HNO.out (by unfold maxLen; omega) (by omega) hsw2 ?_))
      intro A5 c5 w5 hown5 hg5 hn5
      have HB5 : Hid (Below w1.heap.size w1 w5) := HB2.out.trans (((Only.refl (fun j => w1.heap.size ≤ j) w2).grown hg5 (fun j hj => .inl (HO2.out.lt j hj).1)).below hsw2 (fun j h => h))
      have HO5 : Hid (w5.ownsRow w1.heap.size 79 1 (.slice A5 (q + en) c5) (q + en) ((flatE (is.take (k + 1))).map (Value.int .u16))) := by
        show World.ownsRow _ _ _ _ _ _ _
        rw [HTK.out, List.map_append]; exact hown5
      clear hown5 hg5 hn5
      go_wp2_with fail
      go_roundw
      case rel => exact ⟨k + 1, A5, c5, q + en, by omega, by go_num, rfl, HO5.out, by omega, HB5.out⟩
      case measure => simp [intOf]; omega
    · have hkn : k = n := by omega
      have HO3 : Hid (wr.ownsRow w1.heap.size 79 1 (.slice B q d) q ((flatE is).map (Value.int .u16))) := by
        have := HO.out; rw [hkn, ← HN.out, List.take_length] at this; exact this
      have HQN : Hid (q = (flatE is).length) := by have := HO3.out.1; show _ = _; simpa using this.symm
      have HHS := Lib.hid (own_hs HO3.out HFR.out.1)
      have HMX : Hid (MW wr m g (fun _ => 0)) := HM1.out.only (S := fun _ => False) (Only.of_below HB.out) id id
      have HLD := Lib.hid (load_yes wr m g (fun _ => 0) at_ B q d (flatE is) HMX.out HHS.out (fun b o s e h0 e' => by
        subst e
        have := (HO3.out.lt b rfl).1
        have := HG.out
        omega) (by rw [HQN.out]; exact HAT.out))
      have hkl : ¬ (k : Int) < (n : Int) := by omega
      clear hkn hlt hk hq
      go_wp2_with fail
      refine (HLD.out).mono ?_
      rintro e w2 ⟨rfl, hm2, o2⟩
      have HM2 := Lib.hid hm2; have O2 := Lib.hid o2
      clear hm2 o2
      go_wp2_with fail
      go_ret
      exact ⟨m, g, rfl, by rw [← HQN.out]; exact HM2.out, hm1, hg1, (HB1.out.trans (HB.out.mono HB1.out.size)).trans (O2.out.below (Nat.le_trans HB1.out.size HB.out.size) (fun j e => by have e' : j = g := e; omega))⟩
end Go.Proofs.Ytpihjhfaeloapaa
namespace Go.Proofs.Ytpihjhfaeloapaa
open Go.RowKit On Th
def K0 : List Ins := [⟨8, 0, 0, 0, 5, 0⟩, ⟨11, 0, 0, 0, 6, 0⟩]
def KF : Nat → Int := loadB (fun _ => 0) 0 (flatE K0) (flatE K0).length
def KC1 : Ch := ⟨[5, 0, 0, 0, 0, 0, 0, 0, 0, 0, 0, 0, 0, 0, 0, 2], false, false, false, false, 0, 0, 1⟩
def KC2 : Ch := ⟨[4294967295, 0, 0, 0, 0, 0, 0, 0, 0, 0, 0, 0, 0, 0, 0, 4], true, false, false, false, 0, 0, 2⟩
theorem k1 (mp : Value) : stepS mp Ch0 KF = (KC1, KF, [⟨4, 0, -1, 1⟩]) := by kernel_rfl
theorem k2 (mp : Value) : stepS mp KC1 KF = (KC2, KF, [⟨4, 2, -1, 1⟩]) := by kernel_rfl
theorem K0_right : ∀ i ∈ K0, rightS i = true := by
  intro i hi
  simp [K0] at hi
  rcases hi with rfl | rfl <;> decide
theorem ChW.reg {w : World} {p : Nat} {c : Ch} (h : ChW w p c) {k : Nat} (hk : k < 16) : w.cell? ⟨p, k, none⟩ = some (.int .u32 (c.R.getD k 0)) := by
  rw [h.1.cell, List.getElem?_toArray, Ch.cell_reg h.2 hk]
theorem ChW.rest {w : World} {p : Nat} {c : Ch} (h : ChW w p c) : w.cell? ⟨p, 16, none⟩ = some (.bool c.nf) ∧ w.cell? ⟨p, 17, none⟩ = some (.bool c.zf) ∧ w.cell? ⟨p, 18, none⟩ = some (.bool c.cf) ∧ w.cell? ⟨p, 19, none⟩ = some (.bool c.vf) ∧
    w.cell? ⟨p, 20, none⟩ = some (.int .i64 c.st) ∧ w.cell? ⟨p, 21, none⟩ = some (.int .i64 c.num) ∧ w.cell? ⟨p, 22, none⟩ = some (.int .i64 c.cyc) := by
  have k : ∀ j, w.cell? ⟨p, 16 + j, none⟩ = [Value.bool c.nf, .bool c.zf, .bool c.cf, .bool c.vf, .int .i64 c.st, .int .i64 c.num, .int .i64 c.cyc][j]? := fun j => by
    rw [h.1.cell, List.getElem?_toArray, Ch.cell_rest h.2]
  exact ⟨k 0, k 1, k 2, k 3, k 4, k 5, k 6⟩
theorem ChW.only {w w' : World} {p : Nat} {c : Ch} {S : Nat → Prop} (h : ChW w p c) (hO : Only S w w') (hn : ¬ S p) : ChW w' p c := ⟨h.1.only hO hn, h.2⟩
set_option maxHeartbeats 8000000 in
set_option maxRecDepth 100000 in
theorem known_c (w : World) : Calls Try.prog 14 #[] w fun e w' => e = .returned (.bool true) ∧ Below w.heap.size w w' := by
  have HI : Hid (InsL (w.alloc (.cells #[.int .i64 8, .int .i64 0, .int .i64 0, .int .i64 0, .int .i64 5, .int .i64 0, .int .i64 11, .int .i64 0, .int .i64 0, .int .i64 0, .int .i64 6, .int .i64 0] 36)) (some ⟨w.heap.size, 0, none⟩) K0) := by
    intro k i hk
    have hb := Blk.new w 36 #[.int .i64 8, .int .i64 0, .int .i64 0, .int .i64 0, .int .i64 5, .int .i64 0, .int .i64 11, .int .i64 0, .int .i64 0, .int .i64 0, .int .i64 6, .int .i64 0]
    match k, hk with
    | 0, hk => simp [K0] at hk; subst hk; exact ⟨_, 0, rfl, hb.cell 0, hb.cell 1, hb.cell 2, hb.cell 3, hb.cell 4, hb.cell 5⟩
    | 1, hk => simp [K0] at hk; subst hk; exact ⟨_, 0, rfl, hb.cell 6, hb.cell 7, hb.cell 8, hb.cell 9, hb.cell 10, hb.cell 11⟩
    | k + 2, hk => simp [K0] at hk
  have HLD := Lib.hid (load_c _ 0 _ 2 K0 HI.out K0_right (by decide) (by unfold canLoad; decide))
  have HB0 : Hid (Below w.heap.size w (w.alloc (.cells #[.int .i64 8, .int .i64 0, .int .i64 0, .int .i64 0, .int .i64 5, .int .i64 0, .int .i64 11, .int .i64 0, .int .i64 0, .int .i64 0, .int .i64 6, .int .i64 0] 36))) := (Below.refl _ _).alloc (Nat.le_refl _) _
  have hKF : loadB (fun _ => 0) (0 : Int).toNat (flatE K0) (flatE K0).length = KF := rfl
  have hK0 : K0.length = 2 := rfl
  rw [hKF, hK0] at HLD
  clear hKF hK0 HI
  go_enter Try.func14, Try.ntmps14
  go_wp2_with fail
  refine (HLD.out).mono ?_
  rintro e w1 ⟨m, g, rfl, hm, hm1, hg1, hb1⟩
  have HM1 := Lib.hid hm
  have HB1 := Lib.hid (HB0.out.trans (hb1.mono HB0.out.size))
  clear hm hb1 HLD
  go_wp2_with fail
  refine (chipNew_c w1).mono ?_
  rintro e w2 ⟨rfl, hc, hb2⟩
  have HC2 := Lib.hid hc
  have HM2 : Hid (MW w2 m g KF) := HM1.out.only (S := fun _ => False) (Only.of_below hb2) id id
  have HB2 := Lib.hid (HB1.out.trans (hb2.mono HB1.out.size))
  have HPL := Lib.hid (show w.heap.size ≤ w1.heap.size from HB1.out.size)
  generalize w1.heap.size = pc at *
  clear hc hb2
  go_wp2_with fail
  refine (trNew_c w2).mono ?_
  rintro e w3 ⟨rfl, rfl⟩
  obtain ⟨w3, hw3⟩ : ∃ w3, w3 = w2.alloc (.cells #[.slice none 0 0] 76) := ⟨_, rfl⟩
  obtain ⟨tp, htp⟩ : ∃ tp, tp = w2.heap.size := ⟨_, rfl⟩
  have hT : Tr w3 tp none [] := by rw [hw3, htp]; exact Tr.new w2
  have hO3 : Only (fun _ => False) w2 w3 := by rw [hw3]; exact (Only.refl _ _).alloc _
  have HC3 := Lib.hid (HC2.out.only hO3 id)
  have HM3 : Hid (MW w3 m g KF) := HM2.out.only hO3 id id
  have HB3 : Hid (Below w.heap.size w w3) := HB2.out.trans (hO3.below HB2.out.size (fun _ h => h.elim))
  have HT3 := Lib.hid hT
  have HTL := Lib.hid (show w.heap.size ≤ tp by rw [htp]; exact HB2.out.size)
  rw [← hw3, ← htp]
  clear hw3 htp hT hO3 HC2 HM2 HB2
  have HS1 := Lib.hid (step_c w3 pc m g (some ⟨tp, 0, none⟩) none Ch0 KF [] HC3.out HM3.out (fun tp' e => by injection e with e; injection e with e; subst e; exact HT3.out) (fun a e => ⟨tp, by injection e with e; exact e.symm⟩) (by decide))
  go_wp2_with fail
  refine (HS1.out).mono ?_
  rintro e w4 ⟨rfl, hc4, hm4, tg4, ht4, o4⟩
  rw [k1] at hc4 hm4 ht4
  have hgl : w.heap.size ≤ g := Nat.le_trans HB0.out.size hg1
  have HB4 : Hid (Below w.heap.size w w4) := HB3.out.trans (o4.below HB3.out.size (fun j h => by
    rcases h with h | h | ⟨tp', h1, h2⟩ | ⟨_, h⟩
    · rw [h]; exact HPL.out
    · rw [h]; exact hgl
    · injection h1 with h1; injection h1 with h1; rw [h2, ← h1]; exact HTL.out
    · cases h))
  have ht4' : Tr w4 tp tg4 [⟨4, 0, -1, 1⟩] ∧ ∀ k, tg4 = some k → w.heap.size ≤ k := by
    rcases ht4 with ⟨h, _⟩ | ⟨tp', h1, h2, h3⟩
    · cases h
    · injection h1 with h1; injection h1 with h1; subst h1
      refine ⟨h2, fun k hk => ?_⟩
      rcases h3 with h3 | ⟨k', h3, h4⟩
      · rw [h3] at hk; cases hk
      · rw [h3] at hk; injection hk with hk; subst hk; exact Nat.le_trans HB3.out.size h4
  obtain ⟨ht5, ht6⟩ := ht4'
  have HC4 := Lib.hid hc4; have HM4 := Lib.hid hm4; have HT4 := Lib.hid ht5; have HT6 := Lib.hid ht6
  have HS2 := Lib.hid (step_c w4 pc m g (some ⟨tp, 0, none⟩) tg4 KC1 KF [⟨4, 0, -1, 1⟩] hc4 hm4 (fun tp' e => by injection e with e; injection e with e; subst e; exact ht5) (fun a e => ⟨tp, by injection e with e; exact e.symm⟩) (by simp))
  clear hc4 hm4 ht4 o4 ht5 ht6 HS1 HC3 HM3 HT3
  go_wp2_with fail
  refine (HS2.out).mono ?_
  rintro e w5 ⟨rfl, hc5, hm5, tg5, ht5, o5⟩
  rw [k2] at hc5 hm5 ht5 ⊢
  have HB5 : Hid (Below w.heap.size w w5) := HB4.out.trans (o5.below HB4.out.size (fun j h => by
    rcases h with h | h | ⟨tp', h1, h2⟩ | ⟨_, h⟩
    · rw [h]; exact HPL.out
    · rw [h]; exact hgl
    · injection h1 with h1; injection h1 with h1; rw [h2, ← h1]; exact HTL.out
    · exact HT6.out j h))
  have ht5' : Tr w5 tp tg5 [⟨4, 0, -1, 1⟩, ⟨4, 2, -1, 1⟩] := by
    rcases ht5 with ⟨h, _⟩ | ⟨tp', h1, h2, h3⟩
    · cases h
    · injection h1 with h1; injection h1 with h1; subst h1; exact h2
  have HLE := Lib.hid (trLen_c w5 tp tg5 _ ht5')
  have q0 := hc5.reg (k := 0) (by omega)
  have q15 := hc5.reg (k := 15) (by omega)
  obtain ⟨q16, q17, q18, q19, q20, q21, q22⟩ := hc5.rest
  change w5.cell? ⟨pc, 0, none⟩ = some (.int .u32 4294967295) at q0
  change w5.cell? ⟨pc, 15, none⟩ = some (.int .u32 4) at q15
  change w5.cell? ⟨pc, 16, none⟩ = some (.bool true) at q16
  change w5.cell? ⟨pc, 17, none⟩ = some (.bool false) at q17
  change w5.cell? ⟨pc, 18, none⟩ = some (.bool false) at q18
  change w5.cell? ⟨pc, 22, none⟩ = some (.int .i64 2) at q22
  change Hid (Calls _ _ _ _ _) at HLE
  clear q19 q20 q21 hc5 hm5 ht5 ht5' o5 HS2 HC4 HM4 HT4
  dsimp only [KC2]
  go_wp2_with fail
  refine (HLE.out).mono ?_
  rintro e w6 ⟨rfl, rfl⟩
  clear HLE
  go_wp2_with fail
  go_ret
  exact ⟨by simp, HB5.out⟩
end Go.Proofs.Ytpihjhfaeloapaa
namespace Go.Proofs.Ytpihjhfaeloapaa
open Go.RowKit On Th
theorem ChW.frozen {w : World} {p : Nat} {c : Ch} (h : ChW w p c) (k : Nat) : w.frozen? ⟨p, k, none⟩ = false := h.1.frozen k
theorem ChW.put {w : World} {p : Nat} {c c' : Ch} (h : ChW w p c) (k : Nat) (v : Value) (e : c.cells.set k v = c'.cells) (ho : c'.ok) : ChW (w.setCell ⟨p, k, none⟩ v) p c' := by
  refine ⟨?_, ho⟩
  have := h.1.set k v
  rwa [List.setIfInBounds_toArray, e] at this
theorem ChW.setReg {w : World} {p : Nat} {c : Ch} (h : ChW w p c) {k : Nat} (hk : k < 16) {x : Int} (hx : U x) : ChW (w.setCell ⟨p, k, none⟩ (.int .u32 x)) p { c with R := c.R.set k x } :=
  h.put k _ (Ch.set_reg h.2 hk x) (h.2.set k hx)
theorem ChW.setNf {w : World} {p : Nat} {c : Ch} (h : ChW w p c) (b : Bool) : ChW (w.setCell ⟨p, 16, none⟩ (.bool b)) p { c with nf := b } := h.put 16 _ (Ch.set_nf h.2 b) ⟨h.2.len, h.2.u⟩
theorem ChW.setZf {w : World} {p : Nat} {c : Ch} (h : ChW w p c) (b : Bool) : ChW (w.setCell ⟨p, 17, none⟩ (.bool b)) p { c with zf := b } := h.put 17 _ (Ch.set_zf h.2 b) ⟨h.2.len, h.2.u⟩
theorem ChW.setCf {w : World} {p : Nat} {c : Ch} (h : ChW w p c) (b : Bool) : ChW (w.setCell ⟨p, 18, none⟩ (.bool b)) p { c with cf := b } := h.put 18 _ (Ch.set_cf h.2 b) ⟨h.2.len, h.2.u⟩
theorem ChW.setVf {w : World} {p : Nat} {c : Ch} (h : ChW w p c) (b : Bool) : ChW (w.setCell ⟨p, 19, none⟩ (.bool b)) p { c with vf := b } := h.put 19 _ (Ch.set_vf h.2 b) ⟨h.2.len, h.2.u⟩
/-- the first k rounds of Run -/
def runUp (mp : Value) (c : Ch) (f : Nat → Int) : Nat → Ch × (Nat → Int) × List Ev
  | 0 => (c, f, [])
  | k + 1 => ((stepS mp (runUp mp c f k).1 (runUp mp c f k).2.1).1, (stepS mp (runUp mp c f k).1 (runUp mp c f k).2.1).2.1, (runUp mp c f k).2.2 ++ (stepS mp (runUp mp c f k).1 (runUp mp c f k).2.1).2.2)
theorem stepS_halt {mp : Value} {c : Ch} {f : Nat → Int} (h : c.st ≠ 0) : stepS mp c f = (c, f, []) := by unfold stepS; rw [if_neg h]
theorem runUp_halt {mp : Value} {c : Ch} {f : Nat → Int} {k : Nat} (h : (runUp mp c f k).1.st ≠ 0) (j : Nat) : runUp mp c f (k + j) = runUp mp c f k := by
  induction j with
  | zero => rfl
  | succ j ih =>
    show ((stepS mp (runUp mp c f (k + j)).1 (runUp mp c f (k + j)).2.1).1, (stepS mp (runUp mp c f (k + j)).1 (runUp mp c f (k + j)).2.1).2.1, (runUp mp c f (k + j)).2.2 ++ (stepS mp (runUp mp c f (k + j)).1 (runUp mp c f (k + j)).2.1).2.2) = _
    rw [ih, stepS_halt h]
    simp
theorem stepS_len (mp : Value) (c : Ch) (f : Nat → Int) : (stepS mp c f).2.2.length ≤ 1 := by
  unfold stepS
  split
  · split
    · split <;> simp
    · simp
  · simp
theorem runUp_len (mp : Value) (c : Ch) (f : Nat → Int) (k : Nat) : (runUp mp c f k).2.2.length ≤ k := by
  induction k with
  | zero => exact Nat.le_refl _
  | succ k ih =>
    have h := stepS_len mp (runUp mp c f k).1 (runUp mp c f k).2.1
    simp only [runUp, List.length_append]
    omega
/-- where the chip, the memory and the trace stand, r being done -/
def RInv (pc m g : Nat) (P : Option Addr) (tg : Option Nat) (l : List Ev) (w : World) (r : Ch × (Nat → Int) × List Ev) (w' : World) : Prop :=
  ChW w' pc r.1 ∧ MW w' m g r.2.1 ∧
  ∃ tg', ((P = none ∧ tg' = tg) ∨ ∃ tp, P = some ⟨tp, 0, none⟩ ∧ Tr w' tp tg' (l ++ r.2.2) ∧ (tg' = tg ∨ ∃ k, tg' = some k ∧ w.heap.size ≤ k)) ∧ Only (fun k => k = pc ∨ k = g ∨ TrS P tg k) w w'
/-- a step on from where it stands -/
theorem RInv.step {pc m g : Nat} {P : Option Addr} {tg : Option Nat} {l : List Ev} {w wx : World} {r : Ch × (Nat → Int) × List Ev} {mp : Value}
    (h : RInv pc m g P tg l w r wx) (hmp : mp = .pointer (some ⟨m, 0, none⟩)) (hP : ∀ a, P = some a → ∃ tp, a = ⟨tp, 0, none⟩) (hl : l.length + r.2.2.length < 1000) :
    Calls Try.prog 21 #[.pointer (some ⟨pc, 0, none⟩), .pointer (some ⟨m, 0, none⟩), .pointer P] wx fun e w' =>
      e = .returned (.int .i64 (stepS mp r.1 r.2.1).1.st) ∧ RInv pc m g P tg l w ((stepS mp r.1 r.2.1).1, (stepS mp r.1 r.2.1).2.1, r.2.2 ++ (stepS mp r.1 r.2.1).2.2) w' := by
  subst hmp
  obtain ⟨hc, hm, tg', ht, ho⟩ := h
  refine (step_c wx pc m g P tg' r.1 r.2.1 (l ++ r.2.2) hc hm (fun tp e => ?_) hP (by rw [List.length_append]; exact hl)).mono ?_
  · rcases ht with ⟨hn, _⟩ | ⟨tp', h1, h2, _⟩
    · rw [hn] at e; cases e
    · rw [h1] at e; injection e with e; injection e with e; subst e; exact h2
  · rintro e w' ⟨he, hc', hm', tg2, ht2, ho2⟩
    refine ⟨he, hc', hm', tg2, ?_, ho.trans ho2 ?_⟩
    · rcases ht2 with ⟨hn, e2⟩ | ⟨tp, h1, h2, h3⟩
      · rcases ht with ⟨_, e1⟩ | ⟨tp', h1, _⟩
        · exact .inl ⟨hn, by rw [e2, e1]⟩
        · rw [hn] at h1; cases h1
      · refine .inr ⟨tp, h1, by rw [← List.append_assoc]; exact h2, ?_⟩
        rcases h3 with h3 | ⟨k, h3, h4⟩
        · rw [h3]
          rcases ht with ⟨hn, _⟩ | ⟨tp', _, _, h5⟩
          · rw [hn] at h1; cases h1
          · exact h5
        · exact .inr ⟨k, h3, Nat.le_trans ho.size h4⟩
    · intro i hi hs
      rcases hs with hs | hs | ⟨tp, h1, h2⟩ | ⟨h1, h2⟩
      · exact .inl hs
      · exact .inr (.inl hs)
      · exact .inr (.inr (.inl ⟨tp, h1, h2⟩))
      · rcases ht with ⟨hn, _⟩ | ⟨tp', _, _, h5 | ⟨k, h5, h6⟩⟩
        · exact absurd hn h1
        · exact .inr (.inr (.inr ⟨h1, by rw [← h5]; exact h2⟩))
        · rw [h5] at h2; injection h2 with h2; omega
set_option maxHeartbeats 8000000 in
set_option maxRecDepth 100000 in
theorem run_c (w : World) (pc m g : Nat) (P : Option Addr) (tg : Option Nat) (c : Ch) (f : Nat → Int) (l : List Ev) (n : Nat) (h : ChW w pc c) (hm : MW w m g f) (ht : ∀ tp, P = some ⟨tp, 0, none⟩ → Tr w tp tg l) (hP : ∀ a, P = some a → ∃ tp, a = ⟨tp, 0, none⟩) (hl : l.length + n ≤ 1000) :
    Calls Try.prog 29 #[.pointer (some ⟨pc, 0, none⟩), .pointer (some ⟨m, 0, none⟩), .pointer P, .int .i64 n] w fun e w' =>
      e = .returned (.int .i64 (runUp (.pointer (some ⟨m, 0, none⟩)) c f n).1.st) ∧ RInv pc m g P tg l w (runUp (.pointer (some ⟨m, 0, none⟩)) c f n) w' := by
  have H0 : Hid (RInv pc m g P tg l w (runUp (.pointer (some ⟨m, 0, none⟩)) c f 0) w) := by
    refine ⟨h, hm, tg, ?_, Only.refl _ _⟩
    rcases P with _ | a
    · exact .inl ⟨rfl, rfl⟩
    · obtain ⟨tp, rfl⟩ := hP a rfl
      exact .inr ⟨tp, rfl, by rw [runUp, List.append_nil]; exact ht tp rfl, .inl rfl⟩
  have HP := Lib.hid hP
  have HL := Lib.hid hl
  have hnb : n ≤ 1000 := by omega
  clear h hm ht hP hl
  go_enter Try.func29, Try.ntmps29
  go_wp2_with fail
  go_loopw [9] (fun i wx => ∃ (k : Nat), k ≤ n ∧ i = .int .i64 k ∧ RInv pc m g P tg l w (runUp (.pointer (some ⟨m, 0, none⟩)) c f k) wx) (fun i _ => n - (intOf i).toNat)
  case atStart => exact ⟨0, Nat.zero_le _, rfl, H0.out⟩
  case round =>
    obtain ⟨k, hk, rfl, hr⟩ := hrel
    have HR := Lib.hid hr
    have q20 := hr.1.rest.2.2.2.2.1
    have HU : Hid (runUp (.pointer (some ⟨m, 0, none⟩)) c f (k + 1) = _) := rfl
    clear hr H0
    by_cases hlt : k < n
    · by_cases hst : (runUp (.pointer (some ⟨m, 0, none⟩)) c f k).1.st = 0
      · have HS := Lib.hid (HR.out.step (mp := .pointer (some ⟨m, 0, none⟩)) rfl HP.out (by have := runUp_len (.pointer (some ⟨m, 0, none⟩)) c f k; have := HL.out; omega))
        rw [hst] at q20
        have HST := Lib.hid hst
        clear hst HU
        have h1 : decide ((k : Int) < (n : Int)) = true := by simp; omega
        go_wp2_with fail
        refine (HS.out).mono ?_
        rintro e w' ⟨rfl, hr'⟩
        have HR' := Lib.hid hr'
        clear hr' HS
        go_wp2_with fail
        go_roundw
        case rel => exact ⟨k + 1, by omega, by go_num, HR'.out⟩
        case measure => simp [intOf]; omega
      · have h1 : decide ((k : Int) < (n : Int)) = true := by simp; omega
        have HE : Hid (runUp (.pointer (some ⟨m, 0, none⟩)) c f n = runUp (.pointer (some ⟨m, 0, none⟩)) c f k) := by
          have := runUp_halt hst (n - k)
          rwa [Nat.add_sub_cancel' hk] at this
        have hb : ((runUp (.pointer (some ⟨m, 0, none⟩)) c f k).1.st == 0) = false := by simp [hst]
        clear HU hst
        go_wp2_with fail
        go_ret
        rw [HE.out]
        exact ⟨rfl, HR.out⟩
    · obtain rfl : k = n := by omega
      clear HU
      go_wp2_with fail
      go_ret
      exact ⟨rfl, HR.out⟩
end Go.Proofs.Ytpihjhfaeloapaa
