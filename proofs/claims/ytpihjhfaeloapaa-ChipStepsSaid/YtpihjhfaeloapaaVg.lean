/- MERGED by mergev.py: XCn XCv. -/
import Derived.Test.YtpihjhfaeloapaaCu
import Derived.BigGuardPart
import Derived.Test.YtpihjhfaeloapaaCt
namespace Go.Proofs.Ytpihjhfaeloapaa
open Go.RowKit On Th
/-- does a condition hold? -/
def holdsS (nf zf cf vf : Bool) (cond : Int) : Bool :=
  (if cond / 2 = 0 then zf else if cond / 2 = 1 then cf else if cond / 2 = 2 then nf else if cond / 2 = 3 then vf else if cond / 2 = 4 then (cf && !zf) else if cond / 2 = 5 then (nf == vf) else (!zf && (nf == vf))) == (cond % 2 == 0)
def Ch.holds (c : Ch) (cond : Int) : Bool := holdsS c.nf c.zf c.cf c.vf cond
set_option maxHeartbeats 4000000 in
set_option maxRecDepth 100000 in
theorem holds_c (w : World) (p : Nat) (s : Sp) (h : SpW w p s) (cond : Int) (h0 : 0 ≤ cond) (h1 : cond ≤ 13) :
    Calls Try.prog 65 #[.pointer (some ⟨p, 0, none⟩), .int .i64 cond] w fun e w' => e = .returned (.bool (s.c.holds cond)) ∧ ∃ k, w' = w.drewN k := by
  obtain ⟨f0, f1, f2, f3, _⟩ := h.flags
  unfold Ch.holds
  clear h
  generalize s.c.nf = nf at *
  generalize s.c.zf = zf at *
  generalize s.c.cf = cf at *
  generalize s.c.vf = vf at *
  have hc : cond = 0 ∨ cond = 1 ∨ cond = 2 ∨ cond = 3 ∨ cond = 4 ∨ cond = 5 ∨ cond = 6 ∨ cond = 7 ∨ cond = 8 ∨ cond = 9 ∨ cond = 10 ∨ cond = 11 ∨ cond = 12 ∨ cond = 13 := by omega
  clear h0 h1
  rcases hc with rfl | rfl | rfl | rfl | rfl | rfl | rfl | rfl | rfl | rfl | rfl | rfl | rfl | rfl
  case inr.inr.inr.inr.inr.inr.inr.inr.inr.inr.inl | inr.inr.inr.inr.inr.inr.inr.inr.inr.inr.inr.inl =>
    go_enter Try.func65, Try.ntmps65
    go_wp2_with fail
    go_quiet (fail)
    go_wp2_with fail
    go_ret
    exact ⟨by simp [holdsS], _, rfl⟩
  case inr.inr.inr.inr.inr.inr.inr.inr.inr.inr.inr.inr.inl | inr.inr.inr.inr.inr.inr.inr.inr.inr.inr.inr.inr.inr =>
    cases zf
    all_goals
      go_enter Try.func65, Try.ntmps65
      go_wp2_with fail
      go_quiet (fail)
      go_wp2_with fail
      go_ret
      exact ⟨by simp [holdsS], _, rfl⟩
  case inr.inr.inr.inr.inr.inr.inr.inr.inl | inr.inr.inr.inr.inr.inr.inr.inr.inr.inl =>
    cases cf
    all_goals
      go_enter Try.func65, Try.ntmps65
      go_wp2_with fail
      go_ret
      exact ⟨by simp [holdsS], 0, rfl⟩
  all_goals
    go_enter Try.func65, Try.ntmps65
    go_wp2_with fail
    go_ret
    exact ⟨by simp [holdsS], 0, rfl⟩
theorem branch_c (w : World) (p : Nat) (s : Sp) (h : SpW w p s) (cost : Int) (ha0 : 0 ≤ s.at_) (ha1 : s.at_ < 131072) :
    Calls Try.prog 66 #[.pointer (some ⟨p, 0, none⟩), .int .i64 cost] w fun e w' => e = .returned (.tuple #[]) ∧ SpW w' p { s.setR 15 ((s.at_ + 4 + s.i.imm) % 4294967296) with cost := cost } ∧ Only (fun k => k = p) w w' := by
  obtain ⟨_, _, _, _, _, r5, _, r7, _, r9, _⟩ := h.rest
  have q15 := h.reg (k := 15) (by omega)
  have z15 := h.frozen 15
  have z32 := h.frozen 32
  have H := Lib.hid h
  generalize s.c.R.getD 15 0 = x at *
  generalize s.at_ = a at *
  generalize s.i.imm = imm at *
  clear h
  go_enter Try.func66, Try.ntmps66
  go_wp2_with fail
  go_region
  go_wp2_with fail
  go_end0
  exact ⟨rfl, (H.out.setReg (k := 15) (by omega) (by unfold U; omega)).setCost cost, (((Only.refl (fun k => k = p) w).setCell (p := ⟨p, 15, none⟩) (.inl rfl) _).setCell (p := ⟨p, 32, none⟩) (.inl rfl) _).drew⟩
/-- the registers that the bits 0 to 7 name -/
def bitsTo (imm : Int) : Nat → List Int
  | 0 => []
  | k + 1 => bitsTo imm k ++ (if imm / 2 ^ k % 2 = 1 then [(k : Int)] else [])
def listS (imm last : Int) : List Int := bitsTo imm 8 ++ (if imm / 256 = 1 then [last] else [])
theorem bitsTo_len (imm : Int) (k : Nat) : (bitsTo imm k).length ≤ k := by
  induction k with
  | zero => simp [bitsTo]
  | succ k ih => unfold bitsTo; split <;> simp <;> omega
theorem info_int : (Try.prog.info? 3).map (fun i => (i.zero, i.size, i.bytes)) = some (some (.int .i64 0), 1, 8) := by kernel_rfl
theorem info_parts1 {t : TypeId} {z : Value} {s b : Nat} (h : (Try.prog.info? t).map (fun i => (i.zero, i.size, i.bytes)) = some (some z, s, b)) : ∃ i, Try.prog.info? t = some i ∧ i.zero = some z ∧ i.size = s ∧ i.bytes = b := by
  cases hi : Try.prog.info? t with
  | none => rw [hi] at h; simp at h
  | some i => rw [hi] at h; simp at h; exact ⟨i, rfl, h.1, h.2.1, h.2.2⟩
theorem and1_i64 (n : Nat) (h : n ≤ 511) : bits .and .i64 (n : Int) 1 = (n : Int) % 2 := by
  have key : (List.range 512).all (fun n => decide (bits .and .i64 (n : Int) 1 = (n : Int) % 2)) = true := by decide +kernel
  have := List.all_eq_true.mp key n (List.mem_range.mpr (by omega))
  exact of_decide_eq_true this
/-- a row of ints of the call's own -/
def IntsO (B : Nat) (w : World) (A : Option Addr) (c : Nat) (l : List Int) : Prop := w.ownsRow B 3 1 (.slice A l.length c) l.length (l.map (Value.int .i64))
set_option maxHeartbeats 4000000 in
set_option maxRecDepth 100000 in
theorem list_c (w : World) (imm last : Int) (h0 : 0 ≤ imm) (h1 : imm ≤ 511) :
    Calls Try.prog 77 #[.int .i64 imm, .int .i64 last] w fun e w' => ∃ A c, e = .returned (.slice A (listS imm last).length c) ∧ IntsO w.heap.size w' A c (listS imm last) ∧ Below w.heap.size w w' := by
  obtain ⟨i0, hi0, hz0, hz1, hz2⟩ := info_parts1 info_int
  have hb1 : ∀ k : Nat, bits .and .i64 (imm / 2 ^ k) 1 = imm / 2 ^ k % 2 := fun k => by
    have hq : 0 ≤ imm / 2 ^ k := Int.ediv_nonneg h0 (Int.le_of_lt (Int.pow_pos (by decide)))
    have hq2 : imm / 2 ^ k ≤ imm := Int.ediv_le_self _ h0
    generalize imm / 2 ^ k = q at *
    obtain ⟨n, rfl⟩ : ∃ n : Nat, q = n := ⟨q.toNat, by omega⟩
    have hq3 : n ≤ 511 := by omega
    exact and1_i64 n (by omega)
  go_enter Try.func77, Try.ntmps77
  go_wp2_with fail
  go_loopw [5, 7] (fun s5 s7 wx => ∃ (k : Nat) (A : Option Addr) (c : Nat), k ≤ 8 ∧ s7 = .int .i64 k ∧ s5 = .slice A (bitsTo imm k).length c ∧ IntsO w.heap.size wx A c (bitsTo imm k) ∧ Below w.heap.size w wx) (fun _ i _ => 8 - (intOf i).toNat)
  case atStart => exact ⟨0, none, 0, by omega, rfl, rfl, World.ownsRow_nil _ _ _ _, Below.refl _ _⟩
  case round =>
    obtain ⟨k, A, c, hk, rfl, rfl, ho, hb⟩ := hrel
    have HO := Lib.hid ho; have HB := Lib.hid hb
    have hbk := hb1 k
    by_cases hlt : k < 8
    · have hsw : w.heap.size ≤ wr.heap.size := hb.size
      have hl := bitsTo_len imm k
      have HBT : Hid (bitsTo imm (k + 1) = bitsTo imm k ++ (if imm / 2 ^ k % 2 = 1 then [(k : Int)] else [])) := rfl
      clear ho hb
      by_cases hb : imm / 2 ^ k % 2 = 1
      · have hbb : (imm / 2 ^ k % 2 == 1) = true := by simp [hb]
        rw [if_pos hb] at HBT
        clear hb
        generalize hl2' : bitsTo imm (k + 1) = l2 at *
        have HL2 := Lib.hid hl2'
        clear hl2'
        generalize bitsTo imm k = l at *
        have hown : World.ownsRow _ _ _ _ _ _ _ := HO.out
        have HOW := Lib.hid hown
        clear hown
        go_wp2_with (at_builtin; go_loud (refine wpList_append_at _ rfl (.tmp 15) (.tmp 17) _ rfl w.heap.size 3 i0 _ 1 8 Try.underlying103 hi0 hz0 hz1 hz2 rfl (by omega) _ l.length (l.map (Value.int .i64)) rfl (own_only HOW.out ((Only.refl (fun _ => False) wr).alloc _) (fun _ _ => id)) (some ⟨wr.heap.size, 0, none⟩) 1 1 _ rfl (Src.block wr 3 1 [.int .i64 (k : Int)] rfl (by simp [Value.oneCell']) (0, 0)) (by simp) (by unfold maxLen; omega) (by omega) (by simp; omega) ?_))
        intro A5 c5 w5 hown5 hg5 hn5
        have HB5 : Hid (Below w.heap.size w w5) := HB.out.trans ((((Only.refl (fun j => w.heap.size ≤ j) wr).alloc (.cells #[.int .i64 (k : Int)] 3)).grown hg5 (fun j hj => .inl (HOW.out.lt j hj).1)).below hsw (fun j h => h))
        have HO5 : Hid (IntsO w.heap.size w5 A5 c5 (l ++ [(k : Int)])) := by
          show World.ownsRow _ _ _ _ _ _ _
          rw [List.length_append, List.map_append]; exact hown5
        clear hown5 hg5 hn5 HOW
        have hl2 : (l ++ [(k : Int)]).length = l.length + 1 := by simp
        go_wp2_with fail
        go_roundw
        case rel => exact ⟨k + 1, A5, c5, by omega, by go_num, by rw [HL2.out, HBT.out, hl2], by rw [HL2.out, HBT.out]; exact HO5.out, HB5.out⟩
        case measure => simp [intOf]; omega
      · have hbb : (imm / 2 ^ k % 2 == 1) = false := by simp [hb]
        rw [if_neg hb, List.append_nil] at HBT
        clear hb
        go_wp2_with fail
        go_roundw
        case rel => exact ⟨k + 1, A, c, by omega, by go_num, by rw [HBT.out], by rw [HBT.out]; exact HO.out, HB.out⟩
        case measure => simp [intOf]; omega
    · have hk8 : k = 8 := by omega
      subst hk8
      have hsw : w.heap.size ≤ wr.heap.size := hb.size
      have hl := bitsTo_len imm 8
      have HLS : Hid (listS imm last = bitsTo imm 8 ++ (if imm / 256 = 1 then [last] else [])) := rfl
      clear ho hb hb1 hlt
      generalize hls : listS imm last = ls at *
      have HLS2 := Lib.hid hls
      clear hls
      generalize bitsTo imm 8 = l at *
      by_cases h8 : imm / 256 = 1
      · have h8' : (imm / 256 == 1) = true := by simp [h8]
        rw [if_pos h8] at HLS
        clear h8
        have hown : World.ownsRow _ _ _ _ _ _ _ := HO.out
        have HOW := Lib.hid hown
        clear hown
        go_wp2_with (at_builtin; go_loud (refine wpList_append_at _ rfl (.tmp 23) (.tmp 25) _ rfl w.heap.size 3 i0 _ 1 8 Try.underlying103 hi0 hz0 hz1 hz2 rfl (by omega) _ l.length (l.map (Value.int .i64)) rfl (own_only HOW.out ((Only.refl (fun _ => False) wr).alloc _) (fun _ _ => id)) (some ⟨wr.heap.size, 0, none⟩) 1 1 _ rfl (Src.block wr 3 1 [.int .i64 last] rfl (by simp [Value.oneCell']) (0, 0)) (by simp) (by unfold maxLen; omega) (by omega) (by simp; omega) ?_))
        intro A5 c5 w5 hown5 hg5 hn5
        have HB5 : Hid (Below w.heap.size w w5) := HB.out.trans ((((Only.refl (fun j => w.heap.size ≤ j) wr).alloc (.cells #[.int .i64 last] 3)).grown hg5 (fun j hj => .inl (HOW.out.lt j hj).1)).below hsw (fun j h => h))
        have HO5 : Hid (IntsO w.heap.size w5 A5 c5 (l ++ [last])) := by
          show World.ownsRow _ _ _ _ _ _ _
          rw [List.length_append, List.map_append]; exact hown5
        clear hown5 hg5 hn5 HOW
        have hl2 : (l ++ [last]).length = l.length + 1 := by simp
        go_wp2_with fail
        go_ret
        exact ⟨A5, c5, by rw [HLS2.out, HLS.out, hl2]; rfl, by rw [HLS2.out, HLS.out]; exact HO5.out, HB5.out⟩
      · have h8' : (imm / 256 == 1) = false := by simp [h8]
        rw [if_neg h8, List.append_nil] at HLS
        clear h8
        go_wp2_with fail
        go_ret
        exact ⟨A, c, by rw [HLS2.out, HLS.out]; rfl, by rw [HLS2.out, HLS.out]; exact HO.out, HB.out⟩
end Go.Proofs.Ytpihjhfaeloapaa
namespace Go.Proofs.Ytpihjhfaeloapaa
open Go.RowKit On Th
theorem xor_top (a b : Int) (ha : U a) (hb : U b) : bits .xor .u32 a b / 2147483648 = (a / 2147483648 + b / 2147483648) % 2 ∧ U (bits .xor .u32 a b) := by
  obtain ⟨a0, a1⟩ := ha
  obtain ⟨b0, b1⟩ := hb
  rw [u32_xor _ _ a0 a1 b0 b1]
  obtain ⟨m, rfl⟩ : ∃ n : Nat, a = n := ⟨a.toNat, by omega⟩
  obtain ⟨n, rfl⟩ : ∃ n : Nat, b = n := ⟨b.toNat, by omega⟩
  simp only [Int.toNat_natCast]
  have hx : m ^^^ n < 2 ^ 32 := Nat.xor_lt_two_pow (by omega) (by omega)
  have ht := Nat.testBit_xor m n 31
  simp only [Nat.testBit, Nat.shiftRight_eq_div_pow] at ht
  have e : ∀ z : Nat, (1 &&& z / 2 ^ 31 != 0) = decide (z / 2147483648 % 2 = 1) := fun z => by
    rw [Nat.one_and_eq_mod_two]
    have : z / 2 ^ 31 % 2 = 0 ∨ z / 2 ^ 31 % 2 = 1 := by omega
    rcases this with h | h <;> simp [h] <;> omega
  rw [e, e, e] at ht
  refine ⟨?_, by unfold U; omega⟩
  have h1 : (decide ((m ^^^ n) / 2147483648 % 2 = 1) = true) ↔ (decide (m / 2147483648 % 2 = 1) ^^ decide (n / 2147483648 % 2 = 1)) = true := by rw [ht]
  by_cases p : m / 2147483648 % 2 = 1 <;> by_cases q : n / 2147483648 % 2 = 1 <;> simp [p, q] at h1 <;> omega
theorem and_top (a b : Int) (ha : U a) (hb : U b) : bits .and .u32 a b / 2147483648 = (a / 2147483648) * (b / 2147483648) := by
  obtain ⟨a0, a1⟩ := ha
  obtain ⟨b0, b1⟩ := hb
  rw [u32_and _ _ a0 a1 b0 b1]
  obtain ⟨m, rfl⟩ : ∃ n : Nat, a = n := ⟨a.toNat, by omega⟩
  obtain ⟨n, rfl⟩ : ∃ n : Nat, b = n := ⟨b.toNat, by omega⟩
  simp only [Int.toNat_natCast]
  have hx : m &&& n < 2 ^ 32 := Nat.and_lt_two_pow _ (by omega)
  have ht := Nat.testBit_and m n 31
  simp only [Nat.testBit, Nat.shiftRight_eq_div_pow] at ht
  have e : ∀ z : Nat, (1 &&& z / 2 ^ 31 != 0) = decide (z / 2147483648 % 2 = 1) := fun z => by
    rw [Nat.one_and_eq_mod_two]
    have : z / 2 ^ 31 % 2 = 0 ∨ z / 2 ^ 31 % 2 = 1 := by omega
    rcases this with h | h <;> simp [h] <;> omega
  rw [e, e, e] at ht
  have h1 : (decide ((m &&& n) / 2147483648 % 2 = 1) = true) ↔ (decide (m / 2147483648 % 2 = 1) && decide (n / 2147483648 % 2 = 1)) = true := by rw [ht]
  have hm : m / 2147483648 = 0 ∨ m / 2147483648 = 1 := by omega
  have hn : n / 2147483648 = 0 ∨ n / 2147483648 = 1 := by omega
  have hm' : (m : Int) / 2147483648 = (m / 2147483648 : Nat) := by omega
  have hn' : (n : Int) / 2147483648 = (n / 2147483648 : Nat) := by omega
  rw [hm', hn']
  rcases hm with p | p <;> rcases hn with q | q <;> simp [p, q] at h1 ⊢ <;> omega
/-- signed overflow of a sum -/
theorem vS_top (a b n : Int) (ha : U a) (hb : U b) (hn : U n) : vS a b n = (decide (a / 2147483648 ≠ n / 2147483648) && decide (b / 2147483648 ≠ n / 2147483648)) := by
  obtain ⟨h1, u1⟩ := xor_top a n ha hn
  obtain ⟨h2, u2⟩ := xor_top b n hb hn
  unfold vS
  rw [and_top _ _ u1 u2, h1, h2]
  unfold U at *
  have p : a / 2147483648 = 0 ∨ a / 2147483648 = 1 := by omega
  have q : b / 2147483648 = 0 ∨ b / 2147483648 = 1 := by omega
  have r : n / 2147483648 = 0 ∨ n / 2147483648 = 1 := by omega
  rcases p with p | p <;> rcases q with q | q <;> rcases r with r | r <;> simp [p, q, r]
/-- what each condition says of two words that were compared -/
def wantC (a b k : Int) : Bool :=
  if k = 0 then decide (a = b) else if k = 1 then decide (a ≠ b) else if k = 2 then decide (b ≤ a) else if k = 3 then decide (a < b)
  else if k = 4 then decide (sg ((a - b) % 4294967296) < 0) else if k = 5 then decide (0 ≤ sg ((a - b) % 4294967296))
  else if k = 8 then decide (b < a) else if k = 9 then decide (a ≤ b) else if k = 10 then decide (sg b ≤ sg a) else if k = 11 then decide (sg a < sg b)
  else if k = 12 then decide (sg b < sg a) else decide (sg a ≤ sg b)
theorem sg_eq {a : Int} (h : U a) : sg a = a - 4294967296 * (a / 2147483648) := by
  unfold U at h; unfold sg; split <;> omega
theorem conds_law (a b k : Int) (ha : U a) (hb : U b) (h0 : 0 ≤ k) (h1 : k ≤ 13) (h6 : k ≠ 6) (h7 : k ≠ 7) :
    holdsS (sumX a (4294967295 - b) true / 2147483648 == 1) (sumX a (4294967295 - b) true == 0) ((a + (4294967295 - b) + cb true) / 4294967296 == 1) (vS a (4294967295 - b) (sumX a (4294967295 - b) true)) k = wantC a b k := by
  rw [vS_top a (4294967295 - b) _ ha hb.neg (sumX_U _ _ _)]
  have e1 := sg_eq ha
  have e2 := sg_eq hb
  have e3 := sg_eq (a := (a - b) % 4294967296) (by unfold U; omega)
  unfold U at ha hb
  have hs : sumX a (4294967295 - b) true = (a - b) % 4294967296 := by unfold sumX cb; simp only [if_true]; omega
  have hcr : ((a + (4294967295 - b) + cb true) / 4294967296 == 1) = decide (b ≤ a) := by unfold cb; rw [Bool.eq_iff_iff]; simp only [if_true, beq_iff_eq, decide_eq_true_eq]; omega
  have hbn : (4294967295 - b) / 2147483648 = 1 - b / 2147483648 := by omega
  rw [hs, hcr, hbn]
  obtain ⟨n, hn⟩ : ∃ n, n = (a - b) % 4294967296 := ⟨_, rfl⟩
  rw [← hn] at e3 ⊢
  have p : a / 2147483648 = 0 ∨ a / 2147483648 = 1 := by omega
  have q : b / 2147483648 = 0 ∨ b / 2147483648 = 1 := by omega
  have r : n / 2147483648 = 0 ∨ n / 2147483648 = 1 := by omega
  have hc : k = 0 ∨ k = 1 ∨ k = 2 ∨ k = 3 ∨ k = 4 ∨ k = 5 ∨ k = 8 ∨ k = 9 ∨ k = 10 ∨ k = 11 ∨ k = 12 ∨ k = 13 := by omega
  rw [Bool.eq_iff_iff]
  rcases hc with rfl | rfl | rfl | rfl | rfl | rfl | rfl | rfl | rfl | rfl | rfl | rfl <;> rcases p with p | p <;> rcases q with q | q <;> rcases r with r | r <;> unfold holdsS wantC <;> (try rw [← hn]) <;> simp [p, q, r] <;> omega
theorem zero_law (a b k : Int) (nf cf vf : Bool) (hk : k = 0 ∨ k = 1) : holdsS nf (sumX a b false == 0) cf vf k = (decide ((a + b) % 4294967296 = 0) == decide (k = 0)) := by
  unfold sumX cb
  rw [Bool.eq_iff_iff]
  rcases hk with rfl | rfl <;> unfold holdsS <;> simp
end Go.Proofs.Ytpihjhfaeloapaa
