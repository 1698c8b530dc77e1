/- law14's word, known, halves. -/
import Derived.Test.YtpcjkllhieiiiaaThI
import Derived.Test.YtpcjkllhieiiiaaThN
import Derived.Deep.RegionHeld3
import Derived.Deep.QuietTactic
import Derived.BigQuiet
namespace Go.Proofs.Ytpcjkllhieiiiaa
open Go.RowKit On Th
theorem Hw.below {w w' : World} {s : Value} {hs : List Int} (h : Hw w s hs) (hb : Below w.heap.size w w') : Hw w' s hs := by
  obtain ⟨A, c, h1, h2⟩ := h
  exact ⟨A, c, h1, fun k x hx => by
    obtain ⟨k1, k2, g, o, k3, k4⟩ := h2 k x hx
    exact ⟨k1, k2, g, o, k3, by rw [hb.cell (block_lt_of_cell k4)]; exact k4⟩⟩
theorem belowN {B : Nat} {a w : World} (h : Below B a w) (n : Nat) : Below B a (w.drewN n) := ⟨h.os, h.tape, h.output, h.size, h.block⟩
def wordS (i : Ins) : Int := if rightS i then (match encL i with | [x] => x | _ => -1) else -1
theorem i64_wraps' (x : Int) (h0 : -1 ≤ x) (h1 : x < 65536) : IntKind.i64.wrap x = x := by rw [IntKind.wrap_i64]; omega
set_option maxHeartbeats 2000000 in
theorem word_c (op d n m imm cond v : Int) (hv : wordS ⟨op, d, n, m, imm, cond⟩ = v) (h0 : -1 ≤ v) (h1 : v < 65536) (w : World) : Calls Try.prog 20 #[.agg #[.int .i64 op, .int .i64 d, .int .i64 n, .int .i64 m, .int .i64 imm, .int .i64 cond]] w fun e w' => e = .returned (.int .i64 v) ∧ Below w.heap.size w w' := by
  have HB0 : Hid (Below w.heap.size w (w.alloc (.cells #[.int .i64 op, .int .i64 d, .int .i64 n, .int .i64 m, .int .i64 imm, .int .i64 cond] 24))) := (Below.refl _ _).alloc (Nat.le_refl _) _
  unfold wordS at hv
  cases hr : rightS ⟨op, d, n, m, imm, cond⟩ with
  | false =>
    rw [hr, if_neg (by simp)] at hv
    subst hv
    have HR := Lib.hid hr
    clear hr
    go_enter Try.func20, Try.ntmps20
    go_wp2_with fail
    refine (encode_c ⟨op, d, n, m, imm, cond⟩ _).mono ?_
    intro e w2 h
    rw [HR.out, if_neg (by simp)] at h
    obtain ⟨rfl, hb⟩ := h
    have HB2 := Lib.hid (HB0.out.trans (hb.mono HB0.out.size))
    clear hb
    go_wp2_with fail
    go_ret
    exact ⟨rfl, HB2.out⟩
  | true =>
    rw [hr, if_pos rfl] at hv
    have HR := Lib.hid hr
    clear hr
    obtain ⟨hs, hhs⟩ : ∃ hs, encL ⟨op, d, n, m, imm, cond⟩ = hs := ⟨_, rfl⟩
    rw [hhs] at hv
    have HHS := Lib.hid hhs
    clear hhs
    rcases hs with _ | ⟨x, _ | ⟨y, t⟩⟩
    · dsimp only at hv
      subst hv
      go_enter Try.func20, Try.ntmps20
      go_wp2_with fail
      refine (encode_c ⟨op, d, n, m, imm, cond⟩ _).mono ?_
      intro e w2 h
      rw [HR.out, if_pos rfl, HHS.out] at h
      obtain ⟨g, rfl, hg, hb⟩ := h
      have HB2 := Lib.hid (HB0.out.trans (hb.mono HB0.out.size))
      clear hb hg
      go_wp2_with fail
      go_ret
      exact ⟨rfl, HB2.out⟩
    · dsimp only at hv
      subst hv
      have hx : IntKind.i64.wrap x = x := i64_wraps' x h0 h1
      go_enter Try.func20, Try.ntmps20
      go_wp2_with fail
      refine (encode_c ⟨op, d, n, m, imm, cond⟩ _).mono ?_
      intro e w2 h
      rw [HR.out, if_pos rfl, HHS.out] at h
      obtain ⟨g, rfl, hg, hb⟩ := h
      have HB2 := Lib.hid (HB0.out.trans (hb.mono HB0.out.size))
      have c0 : w2.cell? ⟨g, 0, none⟩ = some (.int .u16 x) := hg.cell 0
      clear hb hg
      go_wp2_with fail
      go_ret
      exact ⟨rfl, HB2.out⟩
    · dsimp only at hv
      subst hv
      have hl : (((x :: y :: t).length : Int) == 1) = false := by simp; omega
      have hl' : (((x :: y :: t).length : Int) != 1) = true := by simp; omega
      go_enter Try.func20, Try.ntmps20
      go_wp2_with fail
      refine (encode_c ⟨op, d, n, m, imm, cond⟩ _).mono ?_
      intro e w2 h
      rw [HR.out, if_pos rfl, HHS.out] at h
      obtain ⟨g, rfl, hg, hb⟩ := h
      have HB2 := Lib.hid (HB0.out.trans (hb.mono HB0.out.size))
      clear hb hg
      generalize (x :: y :: t).length = ln at *
      go_wp2_with fail
      go_ret
      exact ⟨rfl, HB2.out⟩
set_option maxHeartbeats 2000000 in
theorem known_c (w : World) : Calls Try.prog 12 #[] w fun e w' => e = .returned (.bool true) ∧ Below w.heap.size w w' := by
  have p1 : Hid (∀ w, Calls Try.prog 20 #[.agg #[.int .i64 8, .int .i64 1, .int .i64 0, .int .i64 0, .int .i64 5, .int .i64 0]] w fun e w' => e = .returned (.int .i64 8453) ∧ Below w.heap.size w w') := word_c 8 1 0 0 5 0 8453 (by decide +kernel) (by decide) (by decide)
  have p2 : Hid (∀ w, Calls Try.prog 20 #[.agg #[.int .i64 44, .int .i64 0, .int .i64 0, .int .i64 0, .int .i64 3, .int .i64 0]] w fun e w' => e = .returned (.int .i64 57091) ∧ Below w.heap.size w w') := word_c 44 0 0 0 3 0 57091 (by decide +kernel) (by decide) (by decide)
  have p3 : Hid (∀ w, Calls Try.prog 20 #[.agg #[.int .i64 42, .int .i64 0, .int .i64 0, .int .i64 0, .int .i64 (-4), .int .i64 0]] w fun e w' => e = .returned (.int .i64 59390) ∧ Below w.heap.size w w') := word_c 42 0 0 0 (-4) 0 59390 (by decide +kernel) (by decide) (by decide)
  go_enter Try.func12, Try.ntmps12
  go_wp2_with fail
  refine (p1.out _).mono ?_
  rintro e w1 ⟨rfl, hb1⟩
  have H1 := Lib.hid hb1
  clear hb1
  go_wp2_with fail
  refine (p2.out _).mono ?_
  rintro e w2 ⟨rfl, hb2⟩
  have H2 := Lib.hid (H1.out.trans (hb2.mono H1.out.size))
  clear hb2
  go_wp2_with fail
  refine (p3.out _).mono ?_
  rintro e w3 ⟨rfl, hb3⟩
  have H3 := Lib.hid (H2.out.trans (hb3.mono H2.out.size))
  clear hb3
  go_wp2_with fail
  go_ret
  exact ⟨rfl, H3.out⟩
set_option maxHeartbeats 2000000 in
theorem halves_c {s t : Value} {xs ys : List Int} {w : World} (hx : Hw w s xs) (hy : Hw w t ys) (hl : xs.length < 1000) : Calls Try.prog 14 #[s, t] w fun e w' => e = .returned (.bool (decide (xs = ys))) ∧ Below w.heap.size w w' := by
  obtain ⟨A, ca, rfl, ka⟩ := hx
  obtain ⟨B, cb, rfl, kb⟩ := hy
  have KA := Lib.hid ka
  have KB := Lib.hid kb
  clear ka kb
  obtain ⟨v, hv⟩ : ∃ v, decide (xs = ys) = v := ⟨_, rfl⟩
  rw [hv]
  by_cases hlen : xs.length = ys.length
  · obtain ⟨n, hn⟩ : ∃ n, ys.length = n := ⟨_, rfl⟩
    rw [hn] at hlen
    rw [hlen] at hl
    rw [hlen, hn]
    have HV := Lib.hid hv
    have HN := Lib.hid hn
    have HLEN := Lib.hid hlen
    clear hv hn hlen
    go_enter Try.func14, Try.ntmps14
    go_wp2_with fail
    go_loopw [5] (fun j wr => ∃ q : Nat, q ≤ n ∧ j = .int .i64 q ∧ xs.take q = ys.take q ∧ Below w.heap.size w wr) (fun j _ => n - (intOf j).toNat)
    case atStart => exact ⟨0, Nat.zero_le _, rfl, rfl, Below.refl _ _⟩
    case round =>
      obtain ⟨q, hq, rfl, ht, hb⟩ := hrel
      have HB := Lib.hid hb
      have HT := Lib.hid ht
      clear hb ht
      by_cases hlt : q < n
      · have hqx : q < xs.length := by rw [HLEN.out]; exact hlt
        have hqy : q < ys.length := by rw [HN.out]; exact hlt
        obtain ⟨x, ex⟩ : ∃ x, xs[q]? = some x := ⟨xs[q], by simp [hqx]⟩
        obtain ⟨y, ey⟩ : ∃ y, ys[q]? = some y := ⟨ys[q], by simp [hqy]⟩
        obtain ⟨_, _, g, o, rfl, c1⟩ := KA.out q x ex
        obtain ⟨_, _, g', o', rfl, c2⟩ := KB.out q y ey
        have d1 : wr.cell? ⟨g, o + q, none⟩ = some (.int .u16 x) := by rw [HB.out.cell (block_lt_of_cell c1)]; exact c1
        have d2 : wr.cell? ⟨g', o' + q, none⟩ = some (.int .u16 y) := by rw [HB.out.cell (block_lt_of_cell c2)]; exact c2
        have hk : Hid ((x == y) = true → xs.take (q + 1) = ys.take (q + 1)) := fun h => by
          rw [List.take_add_one, List.take_add_one, HT.out, ex, ey, show x = y by simpa using h]
        have hk' : Hid ((x == y) = false → v = false) := fun h => by
          rw [← HV.out]
          simp only [decide_eq_false_iff_not]
          rintro rfl
          rw [ex] at ey
          simp at ey h
          exact h ey
        have HLT := Lib.hid hlt
        clear c1 c2 ex ey hqx hqy
        cases hxy : (x == y)
        · have hxy' : (x != y) = true := by simp [bne, hxy]
          have hvf := Lib.hid (hk'.out hxy)
          clear hk hk'
          go_wp2_with fail
          go_quiet (fail)
          go_wp2_with fail
          go_ret
          exact ⟨by rw [hvf.out]; rfl, belowN HB.out _⟩
        · have hxy' : (x != y) = false := by simp [bne, hxy]
          have hvt := Lib.hid (hk.out hxy)
          clear hk hk'
          go_wp2_with fail
          go_quiet (fail)
          go_wp2_with fail
          go_roundw
          case rel => exact ⟨q + 1, by have := HLT.out; omega, by go_num, hvt.out, belowN HB.out _⟩
          case measure => have := HLT.out; simp [intOf]; omega
      · have hqe : q = n := by omega
        subst hqe
        have hvt : v = true := by
          rw [← HV.out]
          simp only [decide_eq_true_eq]
          have e := HT.out
          rw [List.take_of_length_le (by rw [HLEN.out]; exact Nat.le_refl _), List.take_of_length_le (by rw [HN.out]; exact Nat.le_refl _)] at e
          exact e
        subst hvt
        go_wp2_with fail
        go_ret
        exact ⟨rfl, HB.out⟩
  · have hvf : v = false := by
      rw [← hv]
      simp only [decide_eq_false_iff_not]
      rintro rfl
      exact hlen rfl
    subst hvf
    have hne : ((xs.length : Int) == (ys.length : Int)) = false := by simp; omega
    have hne' : ((xs.length : Int) != (ys.length : Int)) = true := by simp [bne, hne]
    clear hv hlen
    go_enter Try.func14, Try.ntmps14
    go_wp2_with fail
    go_ret
    exact ⟨rfl, Below.refl _ _⟩
end Go.Proofs.Ytpcjkllhieiiiaa
