/- MERGED by mergeq.py: XQm XQn. -/
import Derived.Test.YtpihjhfaeloapaaUc
import Derived.Test.YtpihjhfaeloapaaUb
import Derived.Test.YtpihjhfaeloapaaUf
import Derived.Maps.AppendAt
import Derived.Deep.CutBlock
import Derived.Deep.DeepCutAuto
namespace Go.Proofs.Ytpihjhfaeloapaa
open Go.RowKit On Th
theorem setB_two {f : Nat → Int} {a : Nat} {n : Int} (h0 : 0 ≤ n) (h1 : n ≤ 65535) : getB (setB f a 2 n) a 2 = n := by
  have h : ∀ j, j < 2 → setB f a 2 n (a + j) = byteAt n j := fun j hj => by unfold setB; rw [if_pos (by omega)]; congr 1; omega
  unfold getB getB getB
  rw [h 0 (by omega), h 1 (by omega)]
  unfold byteAt; simp; omega
theorem loadB_at {f : Nat → Int} {a : Nat} {hs : List Int} (hr : ∀ k, 0 ≤ hs.getD k 0 ∧ hs.getD k 0 ≤ 65535) {n k : Nat} (hk : k < n) : getB (loadB f a hs n) (a + 2 * k) 2 = hs.getD k 0 := by
  induction n with
  | zero => omega
  | succ n ih =>
    unfold loadB
    by_cases e : k = n
    · subst e; exact setB_two (hr k).1 (hr k).2
    · rw [getB_congr (fun j h1 h2 => setB_low (.inl (by omega)))]
      exact ih (by omega)
theorem half_at {f : Nat → Int} {hs : List Int} (hr : ∀ k, 0 ≤ hs.getD k 0 ∧ hs.getD k 0 ≤ 65535) {n k : Nat} (hk : k < n) (hn : n ≤ 1000) : halfS (loadB f 100 hs n) (100 + 2 * k) = (hs.getD k 0, true) := by
  unfold halfS
  rw [if_pos (by omega), show ((100 : Int) + 2 * k).toNat = 100 + 2 * k by omega, loadB_at hr hk]
theorem fetch_code {l : List Ins} (hr : ∀ i ∈ l, rightS i = true) (hq : ∀ i ∈ l, i.op ≠ 43) (hn : l.length ≤ 400) {k : Nat} (hk : k < l.length) :
    (flatE l).length = l.length ∧ fetchS (loadB (fun _ => 0) 100 (flatE l) (flatE l).length) (100 + 2 * k) = (l[k], 1, 0) := by
  have key : ∀ l : List Ins, (∀ i ∈ l, rightS i = true) → (∀ i ∈ l, i.op ≠ 43) → (flatE l).length = l.length ∧ ∀ (k : Nat) (hk : k < l.length), encL l[k] = [(flatE l).getD k 0] := by
    intro l
    induction l with
    | nil => intro _ _; exact ⟨rfl, fun k hk => by simp at hk⟩
    | cons i t ih =>
      intro h1 h2
      obtain ⟨g1, g2⟩ := ih (fun j hj => h1 j (List.mem_cons_of_mem _ hj)) (fun j hj => h2 j (List.mem_cons_of_mem _ hj))
      have e : flatE (i :: t) = encL i ++ flatE t := by simp [flatE]
      have hi := (enc_range i (h1 i List.mem_cons_self)).2
      have hi1 : (encL i).length = 1 := by
        rcases hi with h | h
        · exact h.1
        · exact absurd h.2 (h2 i List.mem_cons_self)
      obtain ⟨x, hx⟩ := List.length_eq_one_iff.mp hi1
      refine ⟨by rw [e, List.length_append, List.length_cons]; omega, fun k hk => ?_⟩
      rw [e, hx]
      cases k with
      | zero => simp [hx]
      | succ k =>
        have := g2 k (by simpa using hk)
        simpa using this
  obtain ⟨g1, g2⟩ := key l hr hq
  refine ⟨g1, ?_⟩
  have hrange : ∀ k, 0 ≤ (flatE l).getD k 0 ∧ (flatE l).getD k 0 ≤ 65535 := getD_half (flatE_range hr).1
  have h0 := half_at (f := fun _ => 0) hrange (n := (flatE l).length) (k := k) (by omega) (by omega)
  have hd := dec_enc l[k] (hr _ (List.getElem_mem hk)) (if (halfS (loadB (fun _ => 0) 100 (flatE l) (flatE l).length) ((100 + 2 * (k : Int)) + 2 * ((1 : Nat) : Int))).2 then [(halfS (loadB (fun _ => 0) 100 (flatE l) (flatE l).length) ((100 + 2 * (k : Int)) + 2 * ((1 : Nat) : Int))).1] else [])
  rw [g2 k hk] at hd
  unfold fetchS hsTo hsTo hsTo
  rw [show (100 + 2 * (k : Int)) + 2 * ((0 : Nat) : Int) = 100 + 2 * k by omega, h0]
  exact hd
end Go.Proofs.Ytpihjhfaeloapaa
namespace Go.Proofs.Ytpihjhfaeloapaa
open Go.RowKit On Th
def quietI (i : Ins) : Prop := i.op = 45 ∨ (1 ≤ i.op ∧ i.op ≤ 27)
/-- the events of k quiet steps -/
def evQ (k : Nat) : List Ev := (List.range k).map fun i : Nat => (⟨4, 100 + 2 * (i : Int), -1, 1⟩ : Ev)
theorem evQ_succ (k : Nat) : evQ (k + 1) = evQ k ++ [⟨4, 100 + 2 * (k : Int), -1, 1⟩] := by unfold evQ; rw [List.range_succ, List.map_append]; rfl
theorem evQ_len (k : Nat) : (evQ k).length = k := by unfold evQ; simp
/-- the code that is built -/
structure Built (B : Nat) (w0 w : World) (v : Value) (q : Nat) (l : List Ins) : Prop where
  h : w.ownsRow B 79 1 v q ((flatE l).map (Value.int .u16))
  r : ∀ i ∈ l, rightS i = true ∧ quietI i
  b : Below B w0 w
/-- two chips behind k steps -/
structure QInv (N : Nat) (w0 : World) (pc pd m g tp tu : Nat) (F : Nat → Int) (k : Nat) (w : World) (cc dd : Ch) (t1 t2 : Option Nat) : Prop where
  c : ChW w pc cc
  d : ChW w pd dd
  m : MW w m g F
  t : Tr w tp t1 (evQ k)
  u : Tr w tu t2 (evQ k)
  cs : cc.st = 0 ∧ cc.cyc = k ∧ cc.R.getD 15 0 = 100 + 2 * (k : Int)
  ds : dd.st = 0 ∧ dd.cyc = k ∧ dd.R.getD 15 0 = 100 + 2 * (k : Int)
  ap : ∀ j, TrB tp t1 j → ¬ TrB tu t2 j
  lo : ∀ j, (TrB tp t1 j ∨ TrB tu t2 j) → N ≤ j
  b : Below N w0 w
theorem trs_trb {tp : Nat} {tg : Option Nat} {k : Nat} (h : TrS (some ⟨tp, 0, none⟩) tg k) : TrB tp tg k := by
  rcases h with ⟨tp', h1, h2⟩ | ⟨_, h⟩
  · injection h1 with h1; injection h1 with h1; exact .inl (by rw [h2, ← h1])
  · exact .inr h
set_option maxHeartbeats 16000000 in
set_option maxRecDepth 100000 in
theorem chipQuiet_c (w : World) (A A1 A2 : Option Addr) (n c n1 c1 n2 c2 : Nat) (how : Int) (hr : Vw.RowsOf w A n 6 (Vw.Viewed Try.prog w 38)) (hw1 : WordsIn w A1 n1) (hw2 : WordsIn w A2 n2) (hn1 : (n1 : Int) ≤ 140737488351232) (hn2 : (n2 : Int) ≤ 140737488351232) :
    Calls Try.prog 9 #[.slice A n c, .slice A1 n1 c1, .slice A2 n2 c2, .int .i64 how] w fun e w' => e = .returned (.bool true) ∧ Below w.heap.size w w' := by
  obtain ⟨i0, hi0, hz0, hz1, hz2⟩ := info_parts2 info_u16
  have HR := Lib.hid hr; have HW1 := Lib.hid hw1; have HW2 := Lib.hid hw2; have HN1 := Lib.hid hn1; have HN2 := Lib.hid hn2
  clear hr hw1 hw2 hn1 hn2
  go_enter Try.func9, Try.ntmps9
  go_upto_block 0 with (fail)
  go_cut [9] (fun v wx => ∃ (l : List Ins) (B : Option Addr) (d q : Nat), l.length ≤ 30 ∧ v = .slice B q d ∧ Built w.heap.size w wx (.slice B q d) q l)
  case first =>
    go_wp2_with fail
    go_loopw [9, 10] (fun v i wx => ∃ (k : Nat) (l : List Ins) (B : Option Addr) (d q : Nat), k ≤ n ∧ k ≤ 30 ∧ l.length ≤ k ∧ i = .int .i64 k ∧ v = .slice B q d ∧ Built w.heap.size w wx (.slice B q d) q l) (fun _ i _ => 30 - (intOf i).toNat)
    case atStart => exact ⟨0, [], none, 0, 0, by omega, by omega, by simp, rfl, rfl, World.ownsRow_nil _ _ _ _, by simp, Below.refl _ _⟩
    case round =>
      obtain ⟨k, l, B, d, q, hkn, hk3, hlk, rfl, rfl, hs⟩ := hrel
      have HS := Lib.hid hs
      have hb := hs.b
      have hqn : Hid (q = (flatE l).length) := by have := hs.h.1; show _ = _; simpa using this.symm
      clear hs
      by_cases hlt : k < n
      · by_cases h30 : (k : Int) < 30
        · cases A with
          | none => have := HR.out.none_ rfl; omega
          | some ad =>
            obtain ⟨b, o, s⟩ := ad
            obtain ⟨rfl, hbw, es, hl, hv, hc⟩ := HR.out.cell b o s k rfl hlt
            obtain ⟨x0, x1, x2, x3, x4, x5, rfl⟩ := viewed_raw hv
            have HO : Hid (Only (fun _ => False) w wr) := Only.of_below hb
            have c0 : wr.cell? ⟨b, o + k * 6, none⟩ = some (.int .i64 x0) := by rw [HO.out.cell (p := ⟨b, o + k * 6, none⟩) hbw id]; exact hc 0 (by omega)
            have c1 : wr.cell? ⟨b, o + k * 6 + 1, none⟩ = some (.int .i64 x1) := by rw [HO.out.cell (p := ⟨b, o + k * 6 + 1, none⟩) hbw id]; exact hc 1 (by omega)
            have c2 : wr.cell? ⟨b, o + k * 6 + 2, none⟩ = some (.int .i64 x2) := by rw [HO.out.cell (p := ⟨b, o + k * 6 + 2, none⟩) hbw id]; exact hc 2 (by omega)
            have c3 : wr.cell? ⟨b, o + k * 6 + 3, none⟩ = some (.int .i64 x3) := by rw [HO.out.cell (p := ⟨b, o + k * 6 + 3, none⟩) hbw id]; exact hc 3 (by omega)
            have c4 : wr.cell? ⟨b, o + k * 6 + 4, none⟩ = some (.int .i64 x4) := by rw [HO.out.cell (p := ⟨b, o + k * 6 + 4, none⟩) hbw id]; exact hc 4 (by omega)
            have c5 : wr.cell? ⟨b, o + k * 6 + 5, none⟩ = some (.int .i64 x5) := by rw [HO.out.cell (p := ⟨b, o + k * 6 + 5, none⟩) hbw id]; exact hc 5 (by omega)
            have HZ : Hid (w.heap.size ≤ wr.heap.size) := hb.size
            have hkn' : (k : Int) < (n : Int) := by omega
            clear hl hv hc hbw HO hb hlt
            have HKN := Lib.hid hkn; have HK3 := Lib.hid hk3; have HLK := Lib.hid hlk
            clear hkn hk3 hlk
            go_wp2_with fail
            refine (ins_c x0 x1 x2 x3 x4 x5 _).mono ?_
            rintro e w1 ⟨x, hxr, rfl, hb1⟩
            have HXR := Lib.hid hxr
            clear hxr c0 c1 c2 c3 c4 c5
            obtain ⟨op, dd, nn, mm, imm, cond⟩ := x
            dsimp only
            go_upto_region 6 with (fail)
            have HE := Lib.hid (fun wq => refEncode_c ⟨op, dd, nn, mm, imm, cond⟩ HXR.out wq)
            have KI := Lib.hid (Blk.new w1 36 #[.int .i64 op, .int .i64 dd, .int .i64 nn, .int .i64 mm, .int .i64 imm, .int .i64 cond])
            have hb2 : Below wr.heap.size wr (w1.alloc (.cells #[.int .i64 op, .int .i64 dd, .int .i64 nn, .int .i64 mm, .int .i64 imm, .int .i64 cond] 36)) := hb1.trans ((Below.refl _ _).alloc hb1.size _)
            obtain ⟨w2, hw2⟩ : ∃ w2, w2 = w1.alloc (.cells #[.int .i64 op, .int .i64 dd, .int .i64 nn, .int .i64 mm, .int .i64 imm, .int .i64 cond] 36) := ⟨_, rfl⟩
            rw [← hw2] at KI hb2 ⊢
            generalize w1.heap.size = xp at *
            have HB2 := Lib.hid hb2
            have HS2 : Hid (Built w.heap.size w w2 (.slice B q d) q l) := ⟨own_only HS.out.h (Only.of_below (S := fun _ => False) hb2) (fun _ _ => id), HS.out.r, HS.out.b.trans (hb2.mono HZ.out)⟩
            have c0 := KI.out.cell 0
            have c1 := KI.out.cell 1
            have c2 := KI.out.cell 2
            have c3 := KI.out.cell 3
            have c4 := KI.out.cell 4
            have c5 := KI.out.cell 5
            simp at c0 c1 c2 c3 c4 c5
            have HZ2 : Hid (w.heap.size ≤ w2.heap.size) := Nat.le_trans HZ.out hb2.size
            clear hw2 hb1 hb2 HS HZ KI
            have HOP : Hid (1 ≤ op ∧ op ≤ 45) := ⟨(right_R HXR.out).op0, (right_R HXR.out).op1⟩
            by_cases hq : op ≤ 27 ∨ op = 45
            · have HQ : Hid (quietI ⟨op, dd, nn, mm, imm, cond⟩) := by
                rcases hq with h | h
                · exact .inr ⟨HOP.out.1, h⟩
                · exact .inl h
              have HQB : op ≤ 27 ∨ (¬ op ≤ 27 ∧ (op == 45) = true) := by
                rcases hq with h | h
                · exact .inl h
                · refine .inr ⟨by omega, by simp [h]⟩
              clear hq
              rcases HQB with h27 | ⟨h27, h45⟩
              all_goals
                go_wp2_with fail
                refine (HE.out _).mono ?_
                rintro e w3 ⟨sv, rfl, hw3, hb3⟩
                obtain ⟨A2, d2, rfl⟩ : ∃ A2 d2, sv = .slice A2 (encL ⟨op, dd, nn, mm, imm, cond⟩).length d2 := by obtain ⟨A2, d2, e, _⟩ := hw3; exact ⟨A2, d2, e⟩
                have HSR := Lib.hid hw3.src
                have hel : 1 ≤ (encL ⟨op, dd, nn, mm, imm, cond⟩).length ∧ (encL ⟨op, dd, nn, mm, imm, cond⟩).length ≤ 2 := by
                  rcases (enc_range _ HXR.out).2 with h | h <;> omega
                obtain ⟨hel1, hel2⟩ := hel
                have HNO : Hid (A2 = none → d2 = 0) := fun e => by have := HSR.out.none_ e; omega
                have HO3 := Lib.hid (own_only HS2.out.h (Only.of_below (S := fun _ => False) hb3) (fun _ _ => id))
                have HB3 := Lib.hid (HS2.out.b.trans (hb3.mono HZ2.out))
                have hsw3 : w.heap.size ≤ w3.heap.size := HB3.out.size
                have hq60 : q ≤ 60 := by
                  have h1 := (flatE_range (fun i hi => (HS2.out.r i hi).1)).2
                  have h2 := hqn.out
                  have h3 := HLK.out
                  have h4 := HK3.out
                  omega
                have HFL := Lib.hid (flatE_snoc l ⟨op, dd, nn, mm, imm, cond⟩)
                generalize encL ⟨op, dd, nn, mm, imm, cond⟩ = el at *
                clear hw3 hb3 c0 c1 c2 c3 c4 c5 HE
                obtain ⟨en, hen⟩ : ∃ en, el.length = en := ⟨_, rfl⟩
                rw [hen] at hel1 hel2 HSR ⊢
                clear hen
                go_wp2_with (at_builtin; go_loud (refine wpList_append_at _ rfl (.tmp 41) (.tmp 43) _ rfl w.heap.size 79 i0 _ 1 2 Try.underlying24 hi0 hz0 hz1 hz2 rfl (by omega) _ q ((flatE l).map (Value.int .u16)) rfl HO3.out A2 en d2 (el.map (Value.int .u16)) rfl HSR.out HNO.out (by unfold maxLen; omega) (by omega) hsw3 ?_))
                intro A5 c5 w5 hown5 hg5 hn5
                have HB5 : Hid (Below w.heap.size w w5) := HB3.out.trans (((Only.refl (fun j => w.heap.size ≤ j) w3).grown hg5 (fun j hj => .inl (HO3.out.lt j hj).1)).below hsw3 (fun j h => h))
                have HB6 : Hid (Built w.heap.size w w5 (.slice A5 (q + en) c5) (q + en) (l ++ [⟨op, dd, nn, mm, imm, cond⟩])) := by
                  refine ⟨?_, fun i hi => ?_, HB5.out⟩
                  · rw [HFL.out, List.map_append]; exact hown5
                  · rw [List.mem_append] at hi
                    rcases hi with hi | hi
                    · exact HS2.out.r i hi
                    · simp at hi; subst hi; exact ⟨HXR.out, HQ.out⟩
                clear hown5 hg5 hn5
                go_wp2_with fail
                have hk1 := HKN.out; have hk2 := HLK.out
                exact ⟨⟨k + 1, l ++ [⟨op, dd, nn, mm, imm, cond⟩], A5, c5, q + en, by omega, by omega, by simp; omega, by go_num, rfl, HB6.out⟩, by simp [intOf]; omega⟩
            · have h27 : ¬ op ≤ 27 := fun h => hq (.inl h)
              have h45 : (op == 45) = false := by simp; exact fun h => hq (.inr h)
              clear hq
              go_wp2_with fail
              have hk1 := HKN.out; have hk2 := HLK.out
              exact ⟨⟨k + 1, l, B, d, q, by omega, by omega, by omega, by go_num, rfl, HS2.out⟩, by simp [intOf]; omega⟩
        · go_wp2_with fail
          go_meet
          exact ⟨l, B, d, q, by omega, rfl, HS.out⟩
      · go_wp2_with fail
        go_meet
        exact ⟨l, B, d, q, by omega, rfl, HS.out⟩
  case rest =>
    obtain ⟨l, B, d, q, hl30, rfl, hs⟩ := hcut
    have hwz : w.heap.size ≤ wc.heap.size := hs.b.size
    have HHS := Lib.hid (own_hs hs.h (flatE_range (fun i hi => (hs.r i hi).1)).1)
    have HRQ := Lib.hid hs.r
    have HB0 := Lib.hid hs.b
    have HQN : Hid (q = (flatE l).length) := by have := hs.h.1; show _ = _; simpa using this.symm
    have HBL : Hid (∀ b o s, B = some ⟨b, o, s⟩ → b < wc.heap.size) := fun b o s e => by
      rcases hs.h.2 with ⟨e', _⟩ | ⟨g, cap, cur, e', _, h2, _⟩
      · injection e' with e'; rw [e'] at e; cases e
      · injection e' with e'
        rw [e'] at e
        injection e with e
        injection e with e
        subst e
        have hbk : Blk wc g 79 cur := h2
        exact hbk.lt
    clear hs
    go_wp2_with fail
    refine (memNew_c wc).mono ?_
    rintro e w1 ⟨m, g, rfl, hm, hm1, hg1, hb1⟩
    have HM1 : Hid (MW w1 m g (fun _ => 0)) := hm
    have HB1 := Lib.hid (HB0.out.trans (hb1.mono hwz))
    have HH1 := Lib.hid (HHS.out.only (S := fun _ => False) (Only.of_below hb1) (fun _ _ _ _ _ => id))
    have HMG := Lib.hid (show wc.heap.size ≤ m ∧ wc.heap.size ≤ g from ⟨hm1, hg1⟩)
    have hz1 : wc.heap.size ≤ w1.heap.size := hb1.size
    clear hm hm1 hg1 hb1 HB0 HHS
    go_wp2_with fail
    refine (chipNew_c w1).mono ?_
    rintro e w2 ⟨rfl, hc, hb2⟩
    have HC2 := Lib.hid hc
    have HO2 : Hid (Only (fun _ => False) w1 w2) := Only.of_below hb2
    have HB2 := Lib.hid (HB1.out.trans (hb2.mono HB1.out.size))
    have hz2 : w1.heap.size < w2.heap.size := hc.1.lt
    obtain ⟨pc, hpc⟩ : ∃ pc, pc = w1.heap.size := ⟨_, rfl⟩
    rw [← hpc] at HC2 hz1 hz2 ⊢
    clear hc hb2 HB1 hpc
    go_wp2_with fail
    refine (chipNew_c w2).mono ?_
    rintro e w3 ⟨rfl, hd, hb3⟩
    have HD3 := Lib.hid hd
    have HO3 : Hid (Only (fun _ => False) w1 w3) := HO2.out.trans (Only.of_below hb3) (fun _ _ h => h)
    have HC3 := Lib.hid (HC2.out.only (S := fun _ => False) (Only.of_below hb3) id)
    have HB3 := Lib.hid (HB2.out.trans (hb3.mono HB2.out.size))
    have hz3 : w2.heap.size < w3.heap.size := hd.1.lt
    obtain ⟨pd, hpd⟩ : ∃ pd, pd = w2.heap.size := ⟨_, rfl⟩
    rw [← hpd] at HD3 hz2 hz3 ⊢
    clear hd hb3 HB2 HC2 HO2 hpd
    go_wp2_with fail
    refine (trNew_c w3).mono ?_
    rintro e w4 ⟨rfl, rfl⟩
    obtain ⟨w4, hw4⟩ : ∃ w4, w4 = w3.alloc (.cells #[.slice none 0 0] 76) := ⟨_, rfl⟩
    obtain ⟨tp, htp⟩ : ∃ tp, tp = w3.heap.size := ⟨_, rfl⟩
    have hT : Tr w4 tp none [] := by rw [hw4, htp]; exact Tr.new w3
    have hO4 : Below w3.heap.size w3 w4 := by rw [hw4]; exact (Below.refl _ _).alloc (Nat.le_refl _) _
    have hz4 : tp < w4.heap.size := hT.lt tp (.inl rfl)
    have HT4 := Lib.hid hT
    have HO4 : Hid (Only (fun _ => False) w1 w4) := HO3.out.trans (Only.of_below hO4) (fun _ _ h => h)
    have HC4 := Lib.hid (HC3.out.only (S := fun _ => False) (Only.of_below hO4) id)
    have HD4 := Lib.hid (HD3.out.only (S := fun _ => False) (Only.of_below hO4) id)
    have HB4 := Lib.hid (HB3.out.trans (hO4.mono HB3.out.size))
    rw [← htp] at hz3
    rw [← hw4, ← htp]
    clear hw4 htp hT hO4 HB3 HC3 HD3 HO3
    go_wp2_with fail
    refine (trNew_c w4).mono ?_
    rintro e w5 ⟨rfl, rfl⟩
    obtain ⟨w5, hw5⟩ : ∃ w5, w5 = w4.alloc (.cells #[.slice none 0 0] 76) := ⟨_, rfl⟩
    obtain ⟨tu, htu⟩ : ∃ tu, tu = w4.heap.size := ⟨_, rfl⟩
    have hT : Tr w5 tu none [] := by rw [hw5, htu]; exact Tr.new w4
    have hO5 : Below w4.heap.size w4 w5 := by rw [hw5]; exact (Below.refl _ _).alloc (Nat.le_refl _) _
    have HU5 := Lib.hid hT
    have HT5 := Lib.hid (HT4.out.keep (Only.of_below (S := fun _ => False) hO5) (fun _ _ => id))
    have HO5 : Hid (Only (fun _ => False) w1 w5) := HO4.out.trans (Only.of_below hO5) (fun _ _ h => h)
    have HC5 := Lib.hid (HC4.out.only (S := fun _ => False) (Only.of_below hO5) id)
    have HD5 := Lib.hid (HD4.out.only (S := fun _ => False) (Only.of_below hO5) id)
    have HB5 := Lib.hid (HB4.out.trans (hO5.mono HB4.out.size))
    rw [← htu] at hz4
    rw [← hw5, ← htu]
    clear hw5 htu hT hO5 HB4 HC4 HD4 HO4 HT4
    go_wp2_with fail
    refine (known_c w5).mono ?_
    rintro e w6 ⟨rfl, hb6⟩
    have HO6 : Hid (Only (fun _ => False) w1 w6) := HO5.out.trans (Only.of_below hb6) (fun _ _ h => h)
    have HC6 := Lib.hid (HC5.out.only (S := fun _ => False) (Only.of_below hb6) id)
    have HD6 := Lib.hid (HD5.out.only (S := fun _ => False) (Only.of_below hb6) id)
    have HT6 := Lib.hid (HT5.out.keep (Only.of_below (S := fun _ => False) hb6) (fun _ _ => id))
    have HU6 := Lib.hid (HU5.out.keep (Only.of_below (S := fun _ => False) hb6) (fun _ _ => id))
    have HB6 := Lib.hid (HB5.out.trans (hb6.mono HB5.out.size))
    have HM6 : Hid (MW w6 m g (fun _ => 0)) := HM1.out.only HO6.out id id
    have HH6 := Lib.hid (HH1.out.only HO6.out (fun _ _ _ _ _ => id))
    clear hb6 HO5 HC5 HD5 HT5 HU5 HB5 HM1 HH1 HO6
    have hq60 : q ≤ 60 := by
      have h1 := (flatE_range (fun i hi => (HRQ.out i hi).1)).2
      have h2 := HQN.out
      omega
    have HLD := Lib.hid (load_yes w6 m g (fun _ => 0) 100 B q d (flatE l) HM6.out HH6.out (fun b o s e _ e' => by
      have := HBL.out b o s e
      have := HMG.out.2
      omega) (by unfold canLoad; omega))
    go_wp2_with fail
    refine (HLD.out).mono ?_
    rintro e w7 ⟨rfl, hm7, ho7⟩
    have HF : Hid (loadB (fun _ => 0) (100 : Int).toNat (flatE l) q = loadB (fun _ => 0) 100 (flatE l) (flatE l).length) := by show _ = _; rw [HQN.out]; rfl
    rw [HF.out] at hm7
    have hapc := HC6.out.apart HM6.out
    have hapd := HD6.out.apart HM6.out
    have HM7 : Hid (MW w7 m g (loadB (fun _ => 0) 100 (flatE l) (flatE l).length)) := hm7
    have HC7 := Lib.hid (HC6.out.only ho7 hapc.2)
    have HD7 := Lib.hid (HD6.out.only ho7 hapd.2)
    have hgb : ∃ cs, Blk w6 g 5 cs := by obtain ⟨_, cs, h, _⟩ := HM6.out; exact ⟨cs, h⟩
    have HT7 := Lib.hid (HT6.out.keep ho7 (fun k hk e => by
      have e' : k = g := e
      subst e'
      obtain ⟨cs, h⟩ := hgb
      exact HT6.out.far h (by decide) (by decide) hk))
    have HU7 := Lib.hid (HU6.out.keep ho7 (fun k hk e => by
      have e' : k = g := e
      subst e'
      obtain ⟨cs, h⟩ := hgb
      exact HU6.out.far h (by decide) (by decide) hk))
    have HB7 : Hid (Below w.heap.size w w7) := HB6.out.trans (ho7.below HB6.out.size (fun j e => by rw [e]; exact Nat.le_trans hwz HMG.out.2))
    have HWZ := Lib.hid hwz
    have hpcl : w.heap.size ≤ pc := by omega
    have hpdl : w.heap.size ≤ pd := by omega
    have HPG := Lib.hid (show pc ≠ m ∧ pc ≠ g ∧ pd ≠ m ∧ pd ≠ g ∧ pc < pd ∧ tp < tu ∧ w.heap.size ≤ pc ∧ w.heap.size ≤ pd ∧ w.heap.size ≤ tp ∧ w.heap.size ≤ tu ∧ w.heap.size ≤ g from ⟨hapc.1, hapc.2, hapd.1, hapd.2, by omega, by omega, by omega, by omega, by omega, by omega, Nat.le_trans hwz HMG.out.2⟩)
    have HWA : Hid (∀ {A : Option Addr} {n : Nat}, WordsIn w A n → ∀ b o s, A = some ⟨b, o, s⟩ → 0 < n → b < w.heap.size) := fun {A n} h b o s e h0 => by
      obtain ⟨b', o', x, e', hb', _⟩ := h 0 h0
      rw [e'] at e
      injection e with e
      injection e with e
      omega
    clear hm7 ho7 hgb hapc hapd HC6 HD6 HM6 HT6 HU6 HB6 HLD HH6 hz1 hz2 hz3 hz4 HBL HMG
    go_wp2_with fail
    refine (begin_c w7 pc Ch0 A1 n1 c1 how HC7.out (HW1.out.only (Only.of_below (S := fun _ => False) HB7.out) (fun _ _ => id)) HN1.out (fun b o s e h0 => by
      have := HWA.out HW1.out b o s e h0
      omega)).mono ?_
    rintro e w8 ⟨rfl, cc, hc8, s1, s2, s3, s4, ho8⟩
    have HC8 := Lib.hid hc8
    have HCS := Lib.hid (show cc.st = 0 ∧ cc.cyc = 0 ∧ cc.R.getD 15 0 = 100 from ⟨s1, s3, s4⟩)
    have HM8 := Lib.hid (HM7.out.only ho8 (fun e => HPG.out.1 e.symm) (fun e => HPG.out.2.1 e.symm))
    have HD8 := Lib.hid (HD7.out.only ho8 (fun e => by have e' : pd = pc := e; have := HPG.out.2.2.2.2.1; omega))
    have HT8 := Lib.hid (HT7.out.keep ho8 (fun k hk e => by have e' : k = pc := e; subst e'; exact HT7.out.far HC7.out.1 (by decide) (by decide) hk))
    have HU8 := Lib.hid (HU7.out.keep ho8 (fun k hk e => by have e' : k = pc := e; subst e'; exact HU7.out.far HC7.out.1 (by decide) (by decide) hk))
    have HB8 : Hid (Below w.heap.size w w8) := HB7.out.trans (ho8.below HB7.out.size (fun j e => by rw [e]; exact hpcl))
    clear hc8 ho8 s1 s2 s3 s4 HC7 HM7 HD7 HT7 HU7 HB7
    go_wp2_with fail
    refine (begin_c w8 pd Ch0 A2 n2 c2 _ HD8.out (HW2.out.only (Only.of_below (S := fun _ => False) HB8.out) (fun _ _ => id)) HN2.out (fun b o s e h0 => by
      have := HWA.out HW2.out b o s e h0
      omega)).mono ?_
    rintro e w9 ⟨rfl, dd, hd9, s1, s2, s3, s4, ho9⟩
    have HD9 := Lib.hid hd9
    have HDS := Lib.hid (show dd.st = 0 ∧ dd.cyc = 0 ∧ dd.R.getD 15 0 = 100 from ⟨s1, s3, s4⟩)
    have HM9 := Lib.hid (HM8.out.only ho9 (fun e => HPG.out.2.2.1 e.symm) (fun e => HPG.out.2.2.2.1 e.symm))
    have HC9 := Lib.hid (HC8.out.only ho9 (fun e => by have e' : pc = pd := e; have := HPG.out.2.2.2.2.1; omega))
    have HT9 := Lib.hid (HT8.out.keep ho9 (fun k hk e => by have e' : k = pd := e; subst e'; exact HT8.out.far HD8.out.1 (by decide) (by decide) hk))
    have HU9 := Lib.hid (HU8.out.keep ho9 (fun k hk e => by have e' : k = pd := e; subst e'; exact HU8.out.far HD8.out.1 (by decide) (by decide) hk))
    have HB9 : Hid (Below w.heap.size w w9) := HB8.out.trans (ho9.below HB8.out.size (fun j e => by rw [e]; exact hpdl))
    clear hd9 ho9 s1 s2 s3 s4 HC8 HM8 HD8 HT8 HU8 HB8
    have q13 := HC9.out.reg (k := 13) (by omega)
    have d13 := HD9.out.reg (k := 13) (by omega)
    have z13 := HD9.out.frozen 13
    obtain ⟨y13, hy13⟩ : ∃ y, cc.R.getD 13 0 = y := ⟨_, rfl⟩
    have hu13 : U y13 := by rw [← hy13]; exact HC9.out.2.reg (by omega)
    have hd10 := HD9.out.setReg (k := 13) (by omega) hu13
    have HD10 : Hid (ChW (w9.setCell ⟨pd, 13, none⟩ (.int .u32 y13)).drew pd { dd with R := dd.R.set 13 y13 }) := ⟨hd10.1.drew, hd10.2⟩
    have HO10 := Lib.hid (((Only.refl (fun j => j = pd) w9).setCell (p := ⟨pd, 13, none⟩) (.inl rfl) (.int .u32 y13)).drew)
    obtain ⟨dk, hdk⟩ : ∃ dk : Ch, dk = { dd with R := dd.R.set 13 y13 } := ⟨_, rfl⟩
    have HDR : Hid (dk.st = 0 ∧ dk.cyc = 0 ∧ dk.R.getD 15 0 = 100) := by
      rw [hdk]
      exact ⟨HDS.out.1, HDS.out.2.1, (getD_set_ne _ (by decide)).trans HDS.out.2.2⟩
    rw [← hdk] at HD10
    clear hdk
    rw [hy13] at q13
    clear hd10 hu13 hy13 HDS
    generalize dd.R.getD 13 0 = yd at *
    go_upto_region 17 with (fail)
    go_region
    go_upto_region 18 with (fail)
    obtain ⟨w10, hw10⟩ : ∃ w10, w10 = (w9.setCell ⟨pd, 13, none⟩ (.int .u32 y13)).drew := ⟨_, rfl⟩
    rw [← hw10] at HD10 HO10 ⊢
    have HQ0 : Hid (QInv w.heap.size w pc pd m g tp tu (loadB (fun _ => 0) 100 (flatE l) (flatE l).length) 0 w10 cc dk none none) := by
      have o := HO10.out
      refine ⟨HC9.out.only o (fun e => by have e' : pc = pd := e; have := HPG.out.2.2.2.2.1; omega), HD10.out, HM9.out.only o (fun e => HPG.out.2.2.1 e.symm) (fun e => HPG.out.2.2.2.1 e.symm),
        HT9.out.keep o (fun k hk e => by have e' : k = pd := e; subst e'; exact HT9.out.far HD9.out.1 (by decide) (by decide) hk),
        HU9.out.keep o (fun k hk e => by have e' : k = pd := e; subst e'; exact HU9.out.far HD9.out.1 (by decide) (by decide) hk),
        ⟨HCS.out.1, by rw [HCS.out.2.1]; rfl, by rw [HCS.out.2.2]; rfl⟩, ⟨HDR.out.1, by rw [HDR.out.2.1]; rfl, by rw [HDR.out.2.2]; rfl⟩, fun j hj hk => ?_, fun j hj => ?_, HB9.out.trans (o.below HB9.out.size (fun j e => by rw [e]; exact hpdl))⟩
      · have h6 := HPG.out.2.2.2.2.2.1
        rcases hj with h | h
        · rcases hk with h' | h'
          · omega
          · cases h'
        · cases h
      · have h7 := HPG.out.2.2.2.2.2.2.2.2
        rcases hj with h | h
        · rcases h with h | h
          · omega
          · cases h
        · rcases h with h | h
          · omega
          · cases h
    have HRL : Hid (∀ i ∈ l, rightS i = true) := fun i hi => (HRQ.out i hi).1
    have HRO : Hid (∀ i ∈ l, i.op ≠ 43) := fun i hi => by
      rcases (HRQ.out i hi).2 with h | h <;> omega
    have HFC := Lib.hid (fun (k : Nat) (hk : k < l.length) => fetch_code HRL.out HRO.out (by omega) hk)
    have HLQ : Hid (0 < l.length → q = l.length) := fun h => HQN.out.trans (HFC.out 0 h).1
    have hql : q = l.length := by
      by_cases h : 0 < l.length
      · exact HLQ.out h
      · have : l = [] := List.eq_nil_of_length_eq_zero (by omega)
        rw [HQN.out, this]; rfl
    clear hw10 HC9 HD9 HM9 HT9 HU9 HB9 HD10 HO10 HCS HDR q13 d13 z13 HLQ
    go_wp2_with fail
    go_loopw [17] (fun s wx => ∃ (k : Nat) (cc dd : Ch) (t1 t2 : Option Nat), k ≤ q ∧ s = .int .i64 k ∧ QInv w.heap.size w pc pd m g tp tu (loadB (fun _ => 0) 100 (flatE l) (flatE l).length) k wx cc dd t1 t2) (fun i _ => q - (intOf i).toNat)
    case atStart => exact ⟨0, cc, dk, none, none, by omega, rfl, HQ0.out⟩
    case round =>
      obtain ⟨k, c1, d1, t1, t2, hk, rfl, hq⟩ := hrel
      have HQ := Lib.hid hq
      clear hq HQ0
      by_cases hlt : k < q
      · have hkl : k < l.length := by omega
        have HX := Lib.hid (HFC.out k hkl).2
        have hxr := HRQ.out _ (List.getElem_mem hkl)
        generalize l[k] = x at *
        have hopx : x.op = 45 ∨ (1 ≤ x.op ∧ x.op ≤ 27 ∧ x.d.toNat ≠ 15) := by
          rcases hxr.2 with h | h
          · exact .inl h
          · exact .inr ⟨h.1, h.2, right_low hxr.1 h.1 h.2⟩
        obtain ⟨c2, e1, e2, e3, e4⟩ := quiet_step (.pointer (some ⟨m, 0, none⟩)) c1 _ x 1 _ HQ.out.c.2.len HQ.out.cs.1 HQ.out.cs.2.2 HX.out hopx
        obtain ⟨d2, f1, f2, f3, f4⟩ := quiet_step (.pointer (some ⟨m, 0, none⟩)) d1 _ x 1 _ HQ.out.d.2.len HQ.out.ds.1 HQ.out.ds.2.2 HX.out hopx
        have HE1 := Lib.hid e1; have HF1 := Lib.hid f1
        have HC2 : Hid (c2.st = 0 ∧ c2.cyc = ((k + 1 : Nat) : Int) ∧ c2.R.getD 15 0 = 100 + 2 * ((k + 1 : Nat) : Int)) := by
          refine ⟨e2, ?_, by rw [e4]; omega⟩
          rw [e3, HQ.out.cs.2.1, wrap64]
          omega
        have HD2 : Hid (d2.st = 0 ∧ d2.cyc = ((k + 1 : Nat) : Int) ∧ d2.R.getD 15 0 = 100 + 2 * ((k + 1 : Nat) : Int)) := by
          refine ⟨f2, ?_, by rw [f4]; omega⟩
          rw [f3, HQ.out.ds.2.1, wrap64]
          omega
        have HEV := Lib.hid (evQ_succ k)
        have HEL := Lib.hid (evQ_len k)
        have hk' : (k : Int) < (q : Int) := by omega
        clear e1 e2 e3 e4 f1 f2 f3 f4 HX hxr hopx
        go_wp2_with fail
        refine (step_c wr pc m g (some ⟨tp, 0, none⟩) t1 c1 _ (evQ k) HQ.out.c HQ.out.m (fun tp' e => by injection e with e; injection e with e; subst e; exact HQ.out.t) (fun a e => ⟨tp, by injection e with e; exact e.symm⟩) (by rw [HEL.out]; omega)).mono ?_
        rintro e w11 ⟨rfl, hc, hm, t3, ht, ho⟩
        rw [HE1.out] at hc hm ht ⊢
        dsimp only at hc hm ht ⊢
        have HC := Lib.hid hc; have HM : Hid (MW w11 m g _) := hm; have HO := Lib.hid ho
        have HT : Hid (Tr w11 tp t3 (evQ (k + 1)) ∧ (t3 = t1 ∨ ∃ j, t3 = some j ∧ wr.heap.size ≤ j)) := by
          rcases ht with ⟨h, _⟩ | ⟨tp', h1, h2, h3⟩
          · cases h
          · injection h1 with h1; injection h1 with h1; subst h1; rw [HEV.out]; exact ⟨h2, h3⟩
        have HDA : Hid (∀ j, (j = pd ∨ TrB tu t2 j) → ¬ (j = pc ∨ j = g ∨ TrS (some ⟨tp, 0, none⟩) t1 j)) := fun j hj h => by
          have hgb : ∃ cs, Blk wr g 5 cs := by obtain ⟨_, cs, h, _⟩ := HQ.out.m; exact ⟨cs, h⟩
          rcases hj with rfl | hj
          · rcases h with h | h | h
            · have := HPG.out.2.2.2.2.1; omega
            · exact HPG.out.2.2.2.1 h
            · exact HQ.out.t.far HQ.out.d.1 (by decide) (by decide) (trs_trb h)
          · rcases h with h | h | h
            · subst h; exact HQ.out.u.far HQ.out.c.1 (by decide) (by decide) hj
            · subst h
              obtain ⟨cs, hg⟩ := hgb
              exact HQ.out.u.far hg (by decide) (by decide) hj
            · exact HQ.out.ap j (trs_trb h) hj
        have HD11 := Lib.hid (HQ.out.d.only HO.out (HDA.out pd (.inl rfl)))
        have HU11 := Lib.hid (HQ.out.u.keep HO.out (fun j hj => HDA.out j (.inr hj)))
        have HB11 : Hid (Below w.heap.size w w11) := HQ.out.b.trans (HO.out.below HQ.out.b.size (fun j h => by
          rcases h with h | h | h
          · have := HPG.out.2.2.2.2.2.2.1; omega
          · have := HPG.out.2.2.2.2.2.2.2.2.2.2; omega
          · exact HQ.out.lo j (.inl (trs_trb h))))
        have HULT : Hid (∀ j, TrB tu t2 j → j < wr.heap.size) := HQ.out.u.lt
        have HAP : Hid (∀ j, TrB tp t3 j → ¬ TrB tu t2 j) := fun j hj hk2 => by
          rcases HT.out.2 with h | ⟨i, h, hi⟩
          · rw [h] at hj; exact HQ.out.ap j hj hk2
          · rcases hj with hj | hj
            · exact HQ.out.ap j (.inl hj) hk2
            · rw [h] at hj; injection hj with hj
              have := HULT.out j hk2
              omega
        have HLO : Hid (∀ j, TrB tp t3 j → w.heap.size ≤ j) := fun j hj => by
          rcases HT.out.2 with h | ⟨i, h, hi⟩
          · rw [h] at hj; exact HQ.out.lo j (.inl hj)
          · rcases hj with hj | hj
            · exact HQ.out.lo j (.inl (.inl hj))
            · rw [h] at hj; injection hj with hj
              have := HQ.out.b.size
              omega
        have HLU : Hid (∀ j, TrB tu t2 j → w.heap.size ≤ j) := fun j hj => HQ.out.lo j (.inr hj)
        have HDS0 := Lib.hid HQ.out.ds
        clear hc hm ht ho HQ HE1 HDA HULT HO
        rw [HC2.out.1]
        go_wp2_with fail
        refine (step_c w11 pd m g (some ⟨tu, 0, none⟩) t2 d1 _ (evQ k) HD11.out HM.out (fun tp' e => by injection e with e; injection e with e; subst e; exact HU11.out) (fun a e => ⟨tu, by injection e with e; exact e.symm⟩) (by rw [HEL.out]; omega)).mono ?_
        rintro e w12 ⟨rfl, hd, hm, t4, ht, ho⟩
        rw [HF1.out] at hd hm ht ⊢
        dsimp only at hd hm ht ⊢
        rw [HD2.out.1]
        have HT4 : Hid (Tr w12 tu t4 (evQ (k + 1)) ∧ (t4 = t2 ∨ ∃ j, t4 = some j ∧ w11.heap.size ≤ j)) := by
          rcases ht with ⟨h, _⟩ | ⟨tp', h1, h2, h3⟩
          · cases h
          · injection h1 with h1; injection h1 with h1; subst h1; rw [HEV.out]; exact ⟨h2, h3⟩
        have HDA : Hid (∀ j, (j = pc ∨ TrB tp t3 j) → ¬ (j = pd ∨ j = g ∨ TrS (some ⟨tu, 0, none⟩) t2 j)) := fun j hj h => by
          have hgb : ∃ cs, Blk w11 g 5 cs := by obtain ⟨_, cs, h, _⟩ := HM.out; exact ⟨cs, h⟩
          rcases hj with rfl | hj
          · rcases h with h | h | h
            · have := HPG.out.2.2.2.2.1; omega
            · exact HPG.out.2.1 h
            · exact HU11.out.far HC.out.1 (by decide) (by decide) (trs_trb h)
          · rcases h with h | h | h
            · subst h; exact HT.out.1.far HD11.out.1 (by decide) (by decide) hj
            · subst h
              obtain ⟨cs, hg⟩ := hgb
              exact HT.out.1.far hg (by decide) (by decide) hj
            · exact HAP.out j hj (trs_trb h)
        have HTLT : Hid (∀ j, TrB tp t3 j → j < w11.heap.size) := HT.out.1.lt
        have HQ2 : Hid (QInv w.heap.size w pc pd m g tp tu (loadB (fun _ => 0) 100 (flatE l) (flatE l).length) (k + 1) w12 c2 d2 t3 t4) := by
          refine ⟨HC.out.only ho (HDA.out pc (.inl rfl)), hd, hm, HT.out.1.keep ho (fun j hj => HDA.out j (.inr hj)), HT4.out.1, HC2.out, HD2.out, fun j hj hk2 => ?_, fun j hj => ?_, HB11.out.trans (ho.below HB11.out.size (fun j h => ?_))⟩
          · rcases HT4.out.2 with h | ⟨i, h, hi⟩
            · rw [h] at hk2; exact HAP.out j hj hk2
            · rcases hk2 with hk2 | hk2
              · exact HAP.out j hj (.inl hk2)
              · rw [h] at hk2; injection hk2 with hk2
                have := HTLT.out j hj
                omega
          · rcases hj with hj | hj
            · exact HLO.out j hj
            · rcases HT4.out.2 with h | ⟨i, h, hi⟩
              · rw [h] at hj; exact HLU.out j hj
              · rcases hj with hj | hj
                · exact HLU.out j (.inl hj)
                · rw [h] at hj; injection hj with hj
                  have := HB11.out.size
                  omega
          · rcases h with h | h | h
            · have := HPG.out.2.2.2.2.2.2.2.1; omega
            · have := HPG.out.2.2.2.2.2.2.2.2.2.2; omega
            · exact HLU.out j (trs_trb h)
        clear hd hm ht ho HDA HTLT HT4 HT HC HM HD11 HU11 HB11 HAP HLO HLU HDS0
        go_wp2_with fail
        exact ⟨⟨k + 1, c2, d2, t3, t4, by omega, by go_num, HQ2.out⟩, by simp [intOf]; omega⟩
      · have hkq : k = q := by omega
        clear hlt
        have hkq' : ¬ (k : Int) < (q : Int) := by omega
        have q22 := HQ.out.c.rest.2.2.2.2.2.2
        have d22 := HQ.out.d.rest.2.2.2.2.2.2
        have q15 := HQ.out.c.reg (k := 15) (by omega)
        have d15 := HQ.out.d.reg (k := 15) (by omega)
        rw [HQ.out.cs.2.1] at q22
        rw [HQ.out.ds.2.1] at d22
        rw [HQ.out.cs.2.2] at q15
        rw [HQ.out.ds.2.2] at d15
        have hsame : ∀ j, Calls Try.prog 30 #[.pointer (some ⟨tp, 0, none⟩), .pointer (some ⟨tu, 0, none⟩)] (wr.drewN j) fun e w' => e = .returned (.int .i64 (-1)) ∧ ∃ n, w' = wr.drewN n := fun j => by
          have h1 : OTr (wr.drewN j) (some ⟨tp, 0, none⟩) (evQ k) := .inr ⟨tp, t1, rfl, HQ.out.t.keep ((Only.refl (fun _ => False) wr).drewN j) (fun _ _ => id)⟩
          have h2 : OTr (wr.drewN j) (some ⟨tu, 0, none⟩) (evQ k) := .inr ⟨tu, t2, rfl, HQ.out.u.keep ((Only.refl (fun _ => False) wr).drewN j) (fun _ _ => id)⟩
          refine (same_e _ _ _ _ _ h1 h2).mono ?_
          rintro e w' ⟨r, rfl, hr, i, rfl⟩
          rw [hr.unique (.inl ⟨rfl, rfl⟩)]
          exact ⟨rfl, j + i, by rw [World.drewN_drewN]⟩
        have HSM := Lib.hid hsame
        have HBX := Lib.hid HQ.out.b
        clear hsame HQ
        subst hkq
        go_wp2_with fail
        go_quiet (exact HSM.out _)
        go_wp2_with fail
        go_ret
        exact ⟨rfl, HBX.out.trans (((Only.refl (fun _ => False) wr).drewN _).below HBX.out.size (fun _ h => h.elim))⟩
theorem chipQuiet_top (v0 v1 v2 v3 : Value) (w : World) (u0 : Vw.Arg Try.prog w 22 v0) (u1 : Vw.Arg Try.prog w 23 v1) (u2 : Vw.Arg Try.prog w 23 v2) (u3 : Vw.Arg Try.prog w 3 v3) :
    Calls Try.prog 9 #[v0, v1, v2, v3] w fun e w' => e = .returned (.bool true) ∧ Below w.heap.size w w' := by
  obtain ⟨A, n, c, rfl, _, _, _, hr⟩ := u0.rows Try.underlying22 cells_raw (by omega)
  obtain ⟨A1, n1, c1, rfl, hn1, hw1⟩ := arg_words u1
  obtain ⟨A2, n2, c2, rfl, hn2, hw2⟩ := arg_words u2
  obtain ⟨how, rfl, _⟩ := u3.int Try.underlying3
  exact chipQuiet_c w A A1 A2 n c n1 c1 n2 c2 how hr hw1 hw2 hn1 hn2
end Go.Proofs.Ytpihjhfaeloapaa
