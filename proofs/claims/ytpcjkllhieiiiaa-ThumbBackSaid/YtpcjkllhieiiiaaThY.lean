/- Halfwords of an argument, appended; ThumbBack. -/
import Derived.Test.YtpcjkllhieiiiaaThW
import Derived.Test.YtpcjkllhieiiiaaThS
import Derived.Laws.AppendOwnNone
import Derived.WalkSmall
import Derived.OwnWalk
import Derived.Deep.DeepCutAuto
import Derived.Deep.CutBlock
import Derived.BigGuardPart
namespace Go.Proofs.Ytpcjkllhieiiiaa
open Go.RowKit On Th
theorem bytes_u16 : Try.prog.bytesOf 37 = 2 := by kernel_rfl
theorem info_u16 : (Try.prog.info? 37).map (fun i => (i.zero, i.size, i.bytes)) = some (some (.int .u16 0), 1, 2) := by kernel_rfl
theorem info_parts2 {t : TypeId} {z : Value} {s b : Nat} (h : (Try.prog.info? t).map (fun i => (i.zero, i.size, i.bytes)) = some (some z, s, b)) : ∃ i, Try.prog.info? t = some i ∧ i.zero = some z ∧ i.size = s ∧ i.bytes = b := by
  cases hi : Try.prog.info? t with
  | none => rw [hi] at h; simp at h
  | some i => rw [hi] at h; simp at h; exact ⟨i, rfl, h.1, h.2.1, h.2.2⟩
theorem hw_nil (w : World) : Hw w (.slice none 0 0) [] := ⟨none, 0, rfl, fun k x h => by simp at h⟩
theorem hw_one (w : World) (x : Int) (h0 : 0 ≤ x) (h1 : x < 65536) : Hw (w.alloc (.cells #[.int .u16 x] 37)) (.slice (some ⟨w.heap.size, 0, none⟩) 1 1) [x] :=
  ⟨_, 1, rfl, fun k y h => by
    cases k with
    | zero => simp at h; subst h; exact ⟨h0, h1, _, _, rfl, (Blk.new w 37 #[.int .u16 x]).cell 0⟩
    | succ k => simp at h⟩
theorem hw_two (w : World) (x y : Int) (h0 : 0 ≤ x) (h1 : x < 65536) (h2 : 0 ≤ y) (h3 : y < 65536) : Hw (w.alloc (.cells #[.int .u16 x, .int .u16 y] 37)) (.slice (some ⟨w.heap.size, 0, none⟩) 2 2) [x, y] :=
  ⟨_, 2, rfl, fun k v h => by
    match k with
    | 0 => simp at h; subst h; exact ⟨h0, h1, _, _, rfl, (Blk.new w 37 #[.int .u16 x, .int .u16 y]).cell 0⟩
    | 1 => simp at h; subst h; exact ⟨h2, h3, _, _, rfl, (Blk.new w 37 #[.int .u16 x, .int .u16 y]).cell 1⟩
    | k + 2 => simp at h⟩
/-- halfwords that came in -/
def HalfsIn (w : World) (v : Value) (xs : List Int) : Prop :=
  (v = .slice none 0 0 ∧ xs = []) ∨ ∃ a c, v = .slice (some a) xs.length c ∧ ∀ j x, xs[j]? = some x → w.cell? (a.add j) = some (.int .u16 x)
theorem HalfsIn.below {w w' : World} {v : Value} {xs : List Int} (h : HalfsIn w v xs) (hb : Below w.heap.size w w') : HalfsIn w' v xs := by
  rcases h with h | ⟨a, c, h1, h2⟩
  · exact .inl h
  · exact .inr ⟨a, c, h1, fun j x hx => by rw [hb.cell (block_lt_of_cell (h2 j x hx))]; exact h2 j x hx⟩
theorem arg_halfs {w : World} {v : Value} (u : Vw.Arg Try.prog w 26 v) : ∃ xs : List Int, HalfsIn w v xs ∧ xs.length * 2 ≤ 140737488351232 ∧ ∀ x ∈ xs, 0 ≤ x ∧ x < 65536 := by
  rcases Vw.Arg.slice Try.underlying26 u with rfl | ⟨a, n, c, rfl, h1, h2, h3, h4⟩
  · exact ⟨[], .inl ⟨rfl, rfl⟩, by simp, by simp⟩
  · obtain ⟨xs, g1, g2, g3, g4⟩ := Vw.viewed_ints Try.underlying37 cells_u16 (cap := n) (fun i hi => h4 i (by omega))
    rw [bytes_u16] at h3
    unfold reachBytes at h3
    subst g1
    refine ⟨xs, .inr ⟨a, c, rfl, fun j x hx => ?_⟩, by omega, fun x hx => ?_⟩
    · have hj : j < xs.length := (List.getElem?_eq_some_iff.mp hx).1
      have hs := g3 (by omega)
      obtain ⟨b, o, s⟩ := a
      dsimp only at hs
      subst hs
      have := g4 j hj
      rw [Vw.add_none, this, List.getD_eq_getElem?_getD, hx]
      rfl
    · have := g2 x hx
      simp [Lit.wf, IntKind.min, IntKind.max, IntKind.signed, IntKind.bits] at this
      omega
theorem own_hw {w : World} {base n : Nat} {v : Value} {xs : List Int} (h : w.ownsRow base 37 1 v n (xs.map (Value.int .u16))) (hr : ∀ x ∈ xs, 0 ≤ x ∧ x < 65536) : Hw w v xs ∧ n = xs.length := by
  obtain ⟨hl, h⟩ := h
  have hn : n = xs.length := by simpa using hl.symm
  refine ⟨?_, hn⟩
  rcases h with ⟨rfl, h0⟩ | ⟨g, cap, cur, rfl, _, h2, _, _, _, h3⟩
  · have : xs = [] := List.eq_nil_of_length_eq_zero (by omega)
    subst this
    exact hw_nil w
  · subst hn
    refine ⟨_, cap, rfl, fun k x hx => ?_⟩
    obtain ⟨r1, r2⟩ := hr x (List.mem_of_getElem? hx)
    refine ⟨r1, r2, g, 0, rfl, ?_⟩
    rw [cell_of_row w g (0 + k) cur 37 (0, 0) h2]
    have hk : k < xs.length := (List.getElem?_eq_some_iff.mp hx).1
    have : (cur.toList.take (xs.length * 1))[k]? = some (.int .u16 x) := by rw [h3]; simp [hx]
    rw [List.getElem?_take] at this
    simp [hk] at this
    simp [this]
theorem own_base {w : World} {base n : Nat} {v : Value} {xs : List Value} (h : w.ownsRow base 37 1 v n xs) : ∀ k, v.ownBlock = some k → base ≤ k := by
  obtain ⟨_, h⟩ := h
  rcases h with ⟨rfl, _⟩ | ⟨g, cap, cur, rfl, h1, _⟩
  · intro k hk; simp [Value.ownBlock] at hk
  · intro k hk; simp [Value.ownBlock] at hk; omega
theorem only_of {B : Nat} {w w' : World} (h : Below B w w') : Only (fun k => B ≤ k) w w' := ⟨h.os, h.tape, h.output, h.size, fun k _ hn => h.block k (Nat.lt_of_not_le hn)⟩
set_option maxHeartbeats 16000000 in
set_option maxRecDepth 100000 in
theorem thumbBack_top (v0 v1 v2 v3 : Value) (w : World) (u0 : Vw.Arg Try.prog w 23 v0) (u1 : Vw.Arg Try.prog w 26 v1) (u2 : Vw.Arg Try.prog w 37 v2) (u3 : Vw.Arg Try.prog w 37 v3) :
    Calls Try.prog 8 #[v0, v1, v2, v3] w fun e w' => e = .returned (.bool true) ∧ Below w.heap.size w w' := by
  obtain ⟨x0, x1, x2, x3, x4, x5, rfl⟩ := arg_raw u0
  obtain ⟨xs, hxs, hlen, hrange⟩ := arg_halfs u1
  obtain ⟨a, rfl, hwa⟩ := Vw.Arg.int Try.underlying37 u2
  obtain ⟨b, rfl, hwb⟩ := Vw.Arg.int Try.underlying37 u3
  have ha : 0 ≤ a ∧ a < 65536 := by simp [Lit.wf, IntKind.min, IntKind.max, IntKind.signed, IntKind.bits] at hwa; omega
  have hb : 0 ≤ b ∧ b < 65536 := by simp [Lit.wf, IntKind.min, IntKind.max, IntKind.signed, IntKind.bits] at hwb; omega
  clear u0 u1 u2 u3 hwa hwb
  obtain ⟨i0, hi0, hz0, hz1, hz2⟩ := info_parts2 info_u16
  have HX := Lib.hid hxs
  have HR := Lib.hid hrange
  have HLEN := Lib.hid hlen
  clear hxs hrange hlen
  have HRA := Lib.hid ha
  have HRB := Lib.hid hb
  clear ha hb
  have HB0 : Hid (Below w.heap.size w (w.alloc (.cells #[.int .i64 x0, .int .i64 x1, .int .i64 x2, .int .i64 x3, .int .i64 x4, .int .i64 x5] 23))) := (Below.refl _ _).alloc (Nat.le_refl _) _
  go_enter Try.func8, Try.ntmps8
  go_wp2_with fail
  refine (ins_c x0 x1 x2 x3 x4 x5 _).mono ?_
  rintro e w1 ⟨i, rfl, hb⟩
  have H1 := Lib.hid ((HB0.out.trans (hb.mono HB0.out.size)).alloc (by have := HB0.out.size; have := hb.size; omega) (.cells #[.int .i64 i.op, .int .i64 i.d, .int .i64 i.n, .int .i64 i.m, .int .i64 i.imm, .int .i64 i.cond] 24))
  have KI := Lib.hid (Blk.new w1 24 #[.int .i64 i.op, .int .i64 i.d, .int .i64 i.n, .int .i64 i.m, .int .i64 i.imm, .int .i64 i.cond])
  clear hb HB0
  go_wp2_with fail
  refine (encode_c i _).mono ?_
  intro e w3 h
  cases hri : rightS i
  · rw [hri, if_neg (by simp)] at h
    obtain ⟨rfl, hb⟩ := h
    have H3 := Lib.hid (H1.out.trans (hb.mono H1.out.size))
    clear hb H1 KI hri
    go_upto_if 29 with (fail)
    go_cut [] (fun wx => Below w.heap.size w wx)
    case first =>
      go_wp2_with fail
      go_meet
      exact H3.out
    case rest =>
      have HB := Lib.hid hcut
      clear hcut
      obtain ⟨j, n, er, hd⟩ : ∃ (j : Ins) (n er : Int), decS [a, b] = (j, n, er) := ⟨_, _, _, rfl⟩
      have HD := Lib.hid hd
      clear hd
      go_wp2_with fail
      refine (decode_c (hw_two _ a b HRA.out.1 HRA.out.2 HRB.out.1 HRB.out.2)).mono ?_
      intro e w8 h
      rw [HD.out] at h
      obtain ⟨rfl, hb⟩ := h
      have B8 := Lib.hid ((HB.out.alloc HB.out.size (.cells #[.int .u16 a, .int .u16 b] 37)).trans (hb.mono (HB.out.alloc HB.out.size (.cells #[.int .u16 a, .int .u16 b] 37)).size))
      have KJ := Lib.hid (Blk.new w8 24 #[.int .i64 j.op, .int .i64 j.d, .int .i64 j.n, .int .i64 j.m, .int .i64 j.imm, .int .i64 j.cond])
      have KL := Lib.hid (((Blk.new wc 37 #[.int .u16 a, .int .u16 b]).only (S := fun _ => False) (Only.of_below hb) id).alloc (.cells #[.int .i64 j.op, .int .i64 j.d, .int .i64 j.n, .int .i64 j.m, .int .i64 j.imm, .int .i64 j.cond] 24))
      clear hb
      dsimp only
      by_cases he : er = 0
      · obtain ⟨hrj, hcase⟩ := dec_right HRA.out.1 HRA.out.2 HRB.out.1 HRB.out.2 HD.out he
        subst he
        have HRJ := Lib.hid hrj
        clear hrj
        go_wp2_with fail
        refine (known_c _).mono ?_
        rintro e w9 ⟨rfl, hb⟩
        have B9 := Lib.hid ((B8.out.alloc B8.out.size (.cells #[.int .i64 j.op, .int .i64 j.d, .int .i64 j.n, .int .i64 j.m, .int .i64 j.imm, .int .i64 j.cond] 24)).trans (hb.mono (B8.out.alloc B8.out.size (.cells #[.int .i64 j.op, .int .i64 j.d, .int .i64 j.n, .int .i64 j.m, .int .i64 j.imm, .int .i64 j.cond] 24)).size))
        have k9 := KJ.out.only (S := fun _ => False) (Only.of_below hb) id
        have KJ9 := Lib.hid k9
        have KL9 := Lib.hid (KL.out.only (S := fun _ => False) (Only.of_below hb) id)
        have c0 := k9.cell 0
        have c1 := k9.cell 1
        have c2 := k9.cell 2
        have c3 := k9.cell 3
        have c4 := k9.cell 4
        have c5 := k9.cell 5
        simp at c0 c1 c2 c3 c4 c5
        clear hb k9
        go_wp2_with fail
        refine (encode_c j _).mono ?_
        intro e w10 h
        rw [HRJ.out, if_pos rfl] at h
        obtain ⟨sv, rfl, hsv, hb⟩ := h.hw (enc_range j HRJ.out).1
        have B10 := Lib.hid (B9.out.trans (hb.mono B9.out.size))
        have KJ10 := Lib.hid (KJ9.out.only (S := fun _ => False) (Only.of_below hb) id)
        have KL10 := Lib.hid (KL9.out.only (S := fun _ => False) (Only.of_below hb) id)
        have HSV := Lib.hid hsv
        clear h hb hsv c0 c1 c2 c3 c4 c5
        rcases hcase with ⟨rfl, hen⟩ | ⟨rfl, hen⟩
        · have HEN := Lib.hid hen
          clear hen
          have HL1 : Hid (Hw w10 (.slice (some ⟨wc.heap.size, 0, none⟩) 1 2) [a]) := ⟨_, 2, rfl, fun k x hx => by
            match k, hx with
            | 0, hx => simp at hx; subst hx; exact ⟨HRA.out.1, HRA.out.2, _, _, rfl, KL10.out.cell 0⟩
            | k + 1, hx => simp at hx⟩
          go_wp2_with fail
          refine (halves_c HSV.out HL1.out (by have := (enc_range j HRJ.out).2; omega)).mono ?_
          rintro e w11 ⟨rfl, hb⟩
          have B11 := Lib.hid (B10.out.trans (hb.mono B10.out.size))
          have k11 := KJ10.out.only (S := fun _ => False) (Only.of_below hb) id
          have c0 := k11.cell 0
          have c1 := k11.cell 1
          have c2 := k11.cell 2
          have c3 := k11.cell 3
          have c4 := k11.cell 4
          have c5 := k11.cell 5
          simp at c0 c1 c2 c3 c4 c5
          rw [decide_eq_true HEN.out]
          clear hb k11
          go_wp2_with fail
          refine (right_c j _).mono ?_
          rintro e w12 ⟨rfl, hb⟩
          rw [HRJ.out]
          have B12 := Lib.hid (B11.out.trans (hb.mono B11.out.size))
          clear hb
          go_wp2_with fail
          go_ret
          exact ⟨rfl, B12.out⟩
        · have HEN := Lib.hid hen
          clear hen
          have HL1 : Hid (Hw w10 (.slice (some ⟨wc.heap.size, 0, none⟩) 2 2) [a, b]) := ⟨_, 2, rfl, fun k x hx => by
            match k, hx with
            | 0, hx => simp at hx; subst hx; exact ⟨HRA.out.1, HRA.out.2, _, _, rfl, KL10.out.cell 0⟩
            | 1, hx => simp at hx; subst hx; exact ⟨HRB.out.1, HRB.out.2, _, _, rfl, KL10.out.cell 1⟩
            | k + 2, hx => simp at hx⟩
          go_wp2_with fail
          refine (halves_c HSV.out HL1.out (by have := (enc_range j HRJ.out).2; omega)).mono ?_
          rintro e w11 ⟨rfl, hb⟩
          have B11 := Lib.hid (B10.out.trans (hb.mono B10.out.size))
          have k11 := KJ10.out.only (S := fun _ => False) (Only.of_below hb) id
          have c0 := k11.cell 0
          have c1 := k11.cell 1
          have c2 := k11.cell 2
          have c3 := k11.cell 3
          have c4 := k11.cell 4
          have c5 := k11.cell 5
          simp at c0 c1 c2 c3 c4 c5
          rw [decide_eq_true HEN.out]
          clear hb k11
          go_wp2_with fail
          refine (right_c j _).mono ?_
          rintro e w12 ⟨rfl, hb⟩
          rw [HRJ.out]
          have B12 := Lib.hid (B11.out.trans (hb.mono B11.out.size))
          clear hb
          go_wp2_with fail
          go_ret
          exact ⟨rfl, B12.out⟩
      · have he' : (er == 0) = false := by simpa using he
        have he2 : (er != 0) = true := by simp [bne, he']
        clear he
        go_wp2_with fail
        refine (known_c _).mono ?_
        rintro e w9 ⟨rfl, hb⟩
        have B9 := Lib.hid ((B8.out.alloc B8.out.size (.cells #[.int .i64 j.op, .int .i64 j.d, .int .i64 j.n, .int .i64 j.m, .int .i64 j.imm, .int .i64 j.cond] 24)).trans (hb.mono (B8.out.alloc B8.out.size (.cells #[.int .i64 j.op, .int .i64 j.d, .int .i64 j.n, .int .i64 j.m, .int .i64 j.imm, .int .i64 j.cond] 24)).size))
        clear hb
        go_wp2_with fail
        refine (known_c _).mono ?_
        rintro e w10 ⟨rfl, hb⟩
        have B10 := Lib.hid (B9.out.trans (hb.mono B9.out.size))
        clear hb
        go_wp2_with fail
        go_ret
        exact ⟨rfl, B10.out⟩
  · rw [hri, if_pos rfl] at h
    obtain ⟨g, rfl, hg, hb⟩ := h
    obtain ⟨er1, er2⟩ := enc_range i hri
    have H3 := Lib.hid (H1.out.trans (hb.mono H1.out.size))
    have KI3 := Lib.hid (KI.out.only (S := fun _ => False) (Only.of_below hb) id)
    have KG := Lib.hid hg
    have HER := Lib.hid er1
    have HRI := Lib.hid hri
    obtain ⟨hs, hhs⟩ : ∃ hs, encL i = hs := ⟨_, rfl⟩
    rw [hhs] at er2 KG HER ⊢
    have HHS := Lib.hid hhs
    have hopl : Hid ((hs.length : Int) * 2 = (if i.op = 43 then 4 else 2) ∧ hs.length ≤ 2 ∧ 1 ≤ hs.length) := by
      show _ ∧ _ ∧ _
      rcases er2 with ⟨h1, h2⟩ | ⟨h1, h2⟩
      · rw [if_neg h2, h1]; exact ⟨by rfl, by omega, by omega⟩
      · rw [if_pos h2, h1]; exact ⟨by rfl, by omega, by omega⟩
    clear hb hg er1 er2 hri hhs H1 KI
    go_upto_if 29 with (fail)
    go_cut [] (fun wx => Below w.heap.size w wx)
    case first =>
      have HL : Hid ((hs.map (Value.int .u16)).length = hs.length * 1) := by show _ = _; simp
      have HC : Hid (∀ (j : Nat) u, (hs.map (Value.int .u16))[j]? = some u → (w3.alloc (.cells #[] 37)).cell? ((⟨g, 0, none⟩ : Addr).add j) = some u) := fun j u hu => by
        rw [Vw.add_none]
        have := (KG.out.alloc (.cells #[] 37)).cell (0 + j)
        rw [this, ← hu]; simp
      have HO : Hid (∀ u ∈ hs.map (Value.int .u16), u.oneCell' = true) := fun u hu => by
        rw [List.mem_map] at hu; obtain ⟨y, _, rfl⟩ := hu; rfl
      have hown := World.ownsRow_made (size := 1) (e := 37) (base := w3.heap.size) w3 #[] 0 (Nat.le_refl _) (by unfold maxLen; omega) (by simp)
      have hl2 : hs.length ≤ 2 := hopl.out.2.1
      have hl1 : 1 ≤ hs.length := hopl.out.2.2
      go_wp2_with (at_builtin; refine wpList_append_own _ rfl (.tmp 31) (.tmp 32) _ rfl w3.heap.size 37 i0 _ 1 2 Try.underlying26 hi0 hz0 hz1 hz2 rfl (by omega) _ 0 [] rfl hown ⟨g, 0, none⟩ hs.length hs.length _ rfl HL.out HC.out HO.out (by unfold maxLen; omega) (by omega) (by simp) ?_)
      intro v' w4 hown1 hg1 hn1
      have hb4 : Below w3.heap.size w3 w4 := ((Below.refl _ _).alloc (Nat.le_refl _) _).grown hg1 (by simp) (by simp [Value.ownBlock])
      try simp only [Nat.zero_add, List.nil_append] at hown1
      have H4 := Lib.hid (H3.out.trans (hb4.mono H3.out.size))
      have KI4 := Lib.hid (KI3.out.only (S := fun _ => False) (Only.of_below hb4) id)
      have HX4 := Lib.hid (HX.out.below H4.out)
      have HW4 := Lib.hid hown1
      have hdec : Hid (decS (hs ++ xs) = (i, (hs.length : Int), 0)) := by
        show decS (hs ++ xs) = _
        rw [← HHS.out]
        exact dec_enc i HRI.out xs
      have hsize : Hid (∀ w, Calls Try.prog 19 #[.agg #[.int .i64 i.op, .int .i64 i.d, .int .i64 i.n, .int .i64 i.m, .int .i64 i.imm, .int .i64 i.cond]] w fun e w' => e = .returned (.int .i64 (2 * (hs.length : Int))) ∧ Below w.heap.size w w') := fun w => (size_c i.op i.d i.n i.m i.imm i.cond w).mono fun e w' h => ⟨by rw [h.1, ← hopl.out.1, Int.mul_comm], h.2⟩
      have hbase4 : Hid (w3.heap.size ≤ w4.heap.size) := hb4.size
      clear hown1 hg1 hn1 hb4 hown
      rcases HX4.out with ⟨rfl, rfl⟩ | ⟨ad, c, rfl, hcell⟩
      · go_wp2_with (at_builtin; refine wpList_append_own_none rfl (.tmp 33) (.tmp 34) _ rfl w3.heap.size 37 i0 1 Try.underlying26 hi0 _ hs.length _ rfl HW4.out rfl ?_)
        have HV := Lib.hid (own_hw HW4.out HER.out).1
        have hdec' : Hid (decS hs = (i, (hs.length : Int), 0)) := by have := hdec.out; rw [List.append_nil] at this; exact this
        go_wp2_with fail
        refine (decode_c HV.out).mono ?_
        intro e w6 h
        rw [hdec'.out] at h
        obtain ⟨rfl, hb⟩ := h
        have H6 := Lib.hid (H4.out.trans (hb.mono H4.out.size))
        have k6 := (KI4.out.only (S := fun _ => False) (Only.of_below hb) id).alloc (.cells #[.int .i64 i.op, .int .i64 i.d, .int .i64 i.n, .int .i64 i.m, .int .i64 i.imm, .int .i64 i.cond] 24)
        have KI6 := Lib.hid k6
        have c0 := k6.cell 0
        have c1 := k6.cell 1
        have c2 := k6.cell 2
        have c3 := k6.cell 3
        have c4 := k6.cell 4
        have c5 := k6.cell 5
        simp at c0 c1 c2 c3 c4 c5
        clear hb k6
        go_wp2_with fail
        refine (hsize.out _).mono ?_
        rintro e w7 ⟨rfl, hb⟩
        have H7 := Lib.hid ((H6.out.alloc H6.out.size (.cells #[.int .i64 i.op, .int .i64 i.d, .int .i64 i.n, .int .i64 i.m, .int .i64 i.imm, .int .i64 i.cond] 24)).trans (hb.mono (H6.out.alloc H6.out.size (.cells #[.int .i64 i.op, .int .i64 i.d, .int .i64 i.n, .int .i64 i.m, .int .i64 i.imm, .int .i64 i.cond] 24)).size))
        clear hb c0 c1 c2 c3 c4 c5
        go_wp2_with fail
        go_meet
        exact H7.out
      · have HC2 := Lib.hid hcell
        have hxl := HLEN.out
        have HL2 : Hid ((xs.map (Value.int .u16)).length = xs.length * 1) := by show _ = _; simp
        have HC3 : Hid (∀ (j : Nat) u, (xs.map (Value.int .u16))[j]? = some u → w4.cell? (ad.add j) = some u) := fun j u hu => by
          rw [List.getElem?_map, Option.map_eq_some_iff] at hu
          obtain ⟨y, hy, rfl⟩ := hu
          exact HC2.out j y hy
        have HO2 : Hid (∀ u ∈ xs.map (Value.int .u16), u.oneCell' = true) := fun u hu => by
          rw [List.mem_map] at hu; obtain ⟨y, _, rfl⟩ := hu; rfl
        clear hcell
        go_wp2_with (at_builtin; refine wpList_append_own _ rfl (.tmp 33) (.tmp 34) _ rfl w3.heap.size 37 i0 _ 1 2 Try.underlying26 hi0 hz0 hz1 hz2 rfl (by omega) _ hs.length _ rfl HW4.out ad xs.length c _ rfl HL2.out HC3.out HO2.out (by unfold maxLen; omega) (by omega) hbase4.out ?_)
        intro v'' w5 hown2 hg2 hn2
        have hb5 : Below w3.heap.size w4 w5 := (Below.refl _ _).grown hg2 hbase4.out (own_base HW4.out)
        rw [← List.map_append] at hown2
        have HV := Lib.hid (own_hw hown2 (fun x hx => by rcases List.mem_append.mp hx with hx | hx; exact HER.out x hx; exact HR.out x hx)).1
        have H5 := Lib.hid (H4.out.trans (hb5.mono (by have := H3.out.size; omega)))
        have KI5 := Lib.hid (KI4.out.only (S := fun k => w3.heap.size ≤ k) (only_of hb5) (by have := KI3.out.lt; omega))
        clear hown2 hg2 hn2 hb5
        go_wp2_with fail
        refine (decode_c HV.out).mono ?_
        intro e w6 h
        rw [hdec.out] at h
        obtain ⟨rfl, hb⟩ := h
        have H6 := Lib.hid (H5.out.trans (hb.mono H5.out.size))
        have k6 := (KI5.out.only (S := fun _ => False) (Only.of_below hb) id).alloc (.cells #[.int .i64 i.op, .int .i64 i.d, .int .i64 i.n, .int .i64 i.m, .int .i64 i.imm, .int .i64 i.cond] 24)
        have KI6 := Lib.hid k6
        have c0 := k6.cell 0
        have c1 := k6.cell 1
        have c2 := k6.cell 2
        have c3 := k6.cell 3
        have c4 := k6.cell 4
        have c5 := k6.cell 5
        simp at c0 c1 c2 c3 c4 c5
        clear hb k6
        go_wp2_with fail
        refine (hsize.out _).mono ?_
        rintro e w7 ⟨rfl, hb⟩
        have H7 := Lib.hid ((H6.out.alloc H6.out.size (.cells #[.int .i64 i.op, .int .i64 i.d, .int .i64 i.n, .int .i64 i.m, .int .i64 i.imm, .int .i64 i.cond] 24)).trans (hb.mono (H6.out.alloc H6.out.size (.cells #[.int .i64 i.op, .int .i64 i.d, .int .i64 i.n, .int .i64 i.m, .int .i64 i.imm, .int .i64 i.cond] 24)).size))
        clear hb c0 c1 c2 c3 c4 c5
        go_wp2_with fail
        go_meet
        exact H7.out
    case rest =>
      have HB := Lib.hid hcut
      clear hcut
      obtain ⟨j, n, er, hd⟩ : ∃ (j : Ins) (n er : Int), decS [a, b] = (j, n, er) := ⟨_, _, _, rfl⟩
      have HD := Lib.hid hd
      clear hd
      go_wp2_with fail
      refine (decode_c (hw_two _ a b HRA.out.1 HRA.out.2 HRB.out.1 HRB.out.2)).mono ?_
      intro e w8 h
      rw [HD.out] at h
      obtain ⟨rfl, hb⟩ := h
      have B8 := Lib.hid ((HB.out.alloc HB.out.size (.cells #[.int .u16 a, .int .u16 b] 37)).trans (hb.mono (HB.out.alloc HB.out.size (.cells #[.int .u16 a, .int .u16 b] 37)).size))
      have KJ := Lib.hid (Blk.new w8 24 #[.int .i64 j.op, .int .i64 j.d, .int .i64 j.n, .int .i64 j.m, .int .i64 j.imm, .int .i64 j.cond])
      have KL := Lib.hid (((Blk.new wc 37 #[.int .u16 a, .int .u16 b]).only (S := fun _ => False) (Only.of_below hb) id).alloc (.cells #[.int .i64 j.op, .int .i64 j.d, .int .i64 j.n, .int .i64 j.m, .int .i64 j.imm, .int .i64 j.cond] 24))
      clear hb
      dsimp only
      by_cases he : er = 0
      · obtain ⟨hrj, hcase⟩ := dec_right HRA.out.1 HRA.out.2 HRB.out.1 HRB.out.2 HD.out he
        subst he
        have HRJ := Lib.hid hrj
        clear hrj
        go_wp2_with fail
        refine (known_c _).mono ?_
        rintro e w9 ⟨rfl, hb⟩
        have B9 := Lib.hid ((B8.out.alloc B8.out.size (.cells #[.int .i64 j.op, .int .i64 j.d, .int .i64 j.n, .int .i64 j.m, .int .i64 j.imm, .int .i64 j.cond] 24)).trans (hb.mono (B8.out.alloc B8.out.size (.cells #[.int .i64 j.op, .int .i64 j.d, .int .i64 j.n, .int .i64 j.m, .int .i64 j.imm, .int .i64 j.cond] 24)).size))
        have k9 := KJ.out.only (S := fun _ => False) (Only.of_below hb) id
        have KJ9 := Lib.hid k9
        have KL9 := Lib.hid (KL.out.only (S := fun _ => False) (Only.of_below hb) id)
        have c0 := k9.cell 0
        have c1 := k9.cell 1
        have c2 := k9.cell 2
        have c3 := k9.cell 3
        have c4 := k9.cell 4
        have c5 := k9.cell 5
        simp at c0 c1 c2 c3 c4 c5
        clear hb k9
        go_wp2_with fail
        refine (encode_c j _).mono ?_
        intro e w10 h
        rw [HRJ.out, if_pos rfl] at h
        obtain ⟨sv, rfl, hsv, hb⟩ := h.hw (enc_range j HRJ.out).1
        have B10 := Lib.hid (B9.out.trans (hb.mono B9.out.size))
        have KJ10 := Lib.hid (KJ9.out.only (S := fun _ => False) (Only.of_below hb) id)
        have KL10 := Lib.hid (KL9.out.only (S := fun _ => False) (Only.of_below hb) id)
        have HSV := Lib.hid hsv
        clear h hb hsv c0 c1 c2 c3 c4 c5
        rcases hcase with ⟨rfl, hen⟩ | ⟨rfl, hen⟩
        · have HEN := Lib.hid hen
          clear hen
          have HL1 : Hid (Hw w10 (.slice (some ⟨wc.heap.size, 0, none⟩) 1 2) [a]) := ⟨_, 2, rfl, fun k x hx => by
            match k, hx with
            | 0, hx => simp at hx; subst hx; exact ⟨HRA.out.1, HRA.out.2, _, _, rfl, KL10.out.cell 0⟩
            | k + 1, hx => simp at hx⟩
          go_wp2_with fail
          refine (halves_c HSV.out HL1.out (by have := (enc_range j HRJ.out).2; omega)).mono ?_
          rintro e w11 ⟨rfl, hb⟩
          have B11 := Lib.hid (B10.out.trans (hb.mono B10.out.size))
          have k11 := KJ10.out.only (S := fun _ => False) (Only.of_below hb) id
          have c0 := k11.cell 0
          have c1 := k11.cell 1
          have c2 := k11.cell 2
          have c3 := k11.cell 3
          have c4 := k11.cell 4
          have c5 := k11.cell 5
          simp at c0 c1 c2 c3 c4 c5
          rw [decide_eq_true HEN.out]
          clear hb k11
          go_wp2_with fail
          refine (right_c j _).mono ?_
          rintro e w12 ⟨rfl, hb⟩
          rw [HRJ.out]
          have B12 := Lib.hid (B11.out.trans (hb.mono B11.out.size))
          clear hb
          go_wp2_with fail
          go_ret
          exact ⟨rfl, B12.out⟩
        · have HEN := Lib.hid hen
          clear hen
          have HL1 : Hid (Hw w10 (.slice (some ⟨wc.heap.size, 0, none⟩) 2 2) [a, b]) := ⟨_, 2, rfl, fun k x hx => by
            match k, hx with
            | 0, hx => simp at hx; subst hx; exact ⟨HRA.out.1, HRA.out.2, _, _, rfl, KL10.out.cell 0⟩
            | 1, hx => simp at hx; subst hx; exact ⟨HRB.out.1, HRB.out.2, _, _, rfl, KL10.out.cell 1⟩
            | k + 2, hx => simp at hx⟩
          go_wp2_with fail
          refine (halves_c HSV.out HL1.out (by have := (enc_range j HRJ.out).2; omega)).mono ?_
          rintro e w11 ⟨rfl, hb⟩
          have B11 := Lib.hid (B10.out.trans (hb.mono B10.out.size))
          have k11 := KJ10.out.only (S := fun _ => False) (Only.of_below hb) id
          have c0 := k11.cell 0
          have c1 := k11.cell 1
          have c2 := k11.cell 2
          have c3 := k11.cell 3
          have c4 := k11.cell 4
          have c5 := k11.cell 5
          simp at c0 c1 c2 c3 c4 c5
          rw [decide_eq_true HEN.out]
          clear hb k11
          go_wp2_with fail
          refine (right_c j _).mono ?_
          rintro e w12 ⟨rfl, hb⟩
          rw [HRJ.out]
          have B12 := Lib.hid (B11.out.trans (hb.mono B11.out.size))
          clear hb
          go_wp2_with fail
          go_ret
          exact ⟨rfl, B12.out⟩
      · have he' : (er == 0) = false := by simpa using he
        have he2 : (er != 0) = true := by simp [bne, he']
        clear he
        go_wp2_with fail
        refine (known_c _).mono ?_
        rintro e w9 ⟨rfl, hb⟩
        have B9 := Lib.hid ((B8.out.alloc B8.out.size (.cells #[.int .i64 j.op, .int .i64 j.d, .int .i64 j.n, .int .i64 j.m, .int .i64 j.imm, .int .i64 j.cond] 24)).trans (hb.mono (B8.out.alloc B8.out.size (.cells #[.int .i64 j.op, .int .i64 j.d, .int .i64 j.n, .int .i64 j.m, .int .i64 j.imm, .int .i64 j.cond] 24)).size))
        clear hb
        go_wp2_with fail
        refine (known_c _).mono ?_
        rintro e w10 ⟨rfl, hb⟩
        have B10 := Lib.hid (B9.out.trans (hb.mono B9.out.size))
        clear hb
        go_wp2_with fail
        go_ret
        exact ⟨rfl, B10.out⟩
end Go.Proofs.Ytpcjkllhieiiiaa
