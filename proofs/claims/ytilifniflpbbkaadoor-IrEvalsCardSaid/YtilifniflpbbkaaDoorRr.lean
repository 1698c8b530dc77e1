/- The reference's right, of a node. -/
import Derived.Test.YtilifniflpbbkaaDoorPn
namespace Go.Proofs.YtilifniflpbbkaaDoor
open Go.RowKit On
theorem refServes_c (op : Int) (w : World) : Calls Tryd.prog 40 #[.int .i64 op] w fun e w' => e = .returned (.int .i64 (serS op)) ∧ w = w' := by
  by_cases h27 : op = 27
  · subst h27
    go_enter Tryd.func40, Tryd.ntmps40
    go_wp2_with fail
    go_ret
    exact ⟨rfl, rfl⟩
  have g27 : (op == 27) = false := by simp [h27]
  by_cases h28 : op = 28
  · subst h28
    go_enter Tryd.func40, Tryd.ntmps40
    go_wp2_with fail
    go_ret
    exact ⟨rfl, rfl⟩
  have g28 : (op == 28) = false := by simp [h28]
  by_cases h17 : op = 17
  · subst h17
    go_enter Tryd.func40, Tryd.ntmps40
    go_wp2_with fail
    go_ret
    exact ⟨rfl, rfl⟩
  have g17 : (op == 17) = false := by simp [h17]
  by_cases h18 : op = 18
  · subst h18
    go_enter Tryd.func40, Tryd.ntmps40
    go_wp2_with fail
    go_ret
    exact ⟨rfl, rfl⟩
  have g18 : (op == 18) = false := by simp [h18]
  by_cases h29 : op = 29
  · subst h29
    go_enter Tryd.func40, Tryd.ntmps40
    go_wp2_with fail
    go_ret
    exact ⟨rfl, rfl⟩
  have g29 : (op == 29) = false := by simp [h29]
  by_cases h30 : op = 30
  · subst h30
    go_enter Tryd.func40, Tryd.ntmps40
    go_wp2_with fail
    go_ret
    exact ⟨rfl, rfl⟩
  have g30 : (op == 30) = false := by simp [h30]
  by_cases h36 : op = 36
  · subst h36
    go_enter Tryd.func40, Tryd.ntmps40
    go_wp2_with fail
    go_ret
    exact ⟨rfl, rfl⟩
  have g36 : (op == 36) = false := by simp [h36]
  by_cases h31 : op = 31
  · subst h31
    go_enter Tryd.func40, Tryd.ntmps40
    go_wp2_with fail
    go_ret
    exact ⟨rfl, rfl⟩
  have g31 : (op == 31) = false := by simp [h31]
  by_cases h32 : op = 32
  · subst h32
    go_enter Tryd.func40, Tryd.ntmps40
    go_wp2_with fail
    go_ret
    exact ⟨rfl, rfl⟩
  have g32 : (op == 32) = false := by simp [h32]
  unfold serS
  rw [if_neg (by omega), if_neg (by omega), if_neg (by omega), if_neg (by omega)]
  go_enter Tryd.func40, Tryd.ntmps40
  go_wp2_with fail
  go_ret
  exact ⟨rfl, rfl⟩
/-- what right says of a node -/
def RightAt (n : Nd) (w : World) (e : Ending) (w' : World) : Prop := e = .returned (.bool n.fieldsS) ∧ Below w.heap.size w w'

set_option maxHeartbeats 8000000 in
set_option maxRecDepth 100000 in
theorem right_none (PA : Option Addr) (pc : Nat) (w : World) : Calls Tryd.prog 32 #[Nd.none.pn.val PA pc] w (RightAt Nd.none w) := by
  have hb : Below w.heap.size w w := Below.refl _ _
  unfold RightAt
  dsimp only [Nd.pn, Pn.val, Nd.fieldsS, List.length]
  go_enter Tryd.func32, Tryd.ntmps32
  go_wp2_with fail
  go_ret
  exact ⟨rfl, hb.alloc (Nat.le_refl _) _⟩

set_option maxHeartbeats 8000000 in
set_option maxRecDepth 100000 in
theorem right_const (d n : Int) (PA : Option Addr) (pc : Nat) (w : World) : Calls Tryd.prog 32 #[(Nd.const d n).pn.val PA pc] w (RightAt (Nd.const d n) w) := by
  have hb : Below w.heap.size w w := Below.refl _ _
  unfold RightAt
  dsimp only [Nd.pn, Pn.val, Nd.fieldsS, List.length]
  go_enter Tryd.func32, Tryd.ntmps32
  go_wp2_with fail
  go_ret
  exact ⟨rfl, hb.alloc (Nat.le_refl _) _⟩

set_option maxHeartbeats 8000000 in
set_option maxRecDepth 100000 in
theorem right_move (d a : Int) (PA : Option Addr) (pc : Nat) (w : World) : Calls Tryd.prog 32 #[(Nd.move d a).pn.val PA pc] w (RightAt (Nd.move d a) w) := by
  have hb : Below w.heap.size w w := Below.refl _ _
  unfold RightAt
  dsimp only [Nd.pn, Pn.val, Nd.fieldsS, List.length]
  go_enter Tryd.func32, Tryd.ntmps32
  go_wp2_with fail
  go_ret
  exact ⟨rfl, hb.alloc (Nat.le_refl _) _⟩

set_option maxHeartbeats 8000000 in
set_option maxRecDepth 100000 in
theorem right_choose (d c a b : Int) (PA : Option Addr) (pc : Nat) (w : World) : Calls Tryd.prog 32 #[(Nd.choose d c a b).pn.val PA pc] w (RightAt (Nd.choose d c a b) w) := by
  have hb : Below w.heap.size w w := Below.refl _ _
  unfold RightAt
  dsimp only [Nd.pn, Pn.val, Nd.fieldsS, List.length]
  go_enter Tryd.func32, Tryd.ntmps32
  go_wp2_with fail
  go_ret
  exact ⟨rfl, hb.alloc (Nat.le_refl _) _⟩

set_option maxHeartbeats 8000000 in
set_option maxRecDepth 100000 in
theorem right_tick (PA : Option Addr) (pc : Nat) (w : World) : Calls Tryd.prog 32 #[Nd.tick.pn.val PA pc] w (RightAt Nd.tick w) := by
  have hb : Below w.heap.size w w := Below.refl _ _
  unfold RightAt
  dsimp only [Nd.pn, Pn.val, Nd.fieldsS, List.length]
  go_enter Tryd.func32, Tryd.ntmps32
  go_wp2_with fail
  go_ret
  exact ⟨rfl, hb.alloc (Nat.le_refl _) _⟩

set_option maxHeartbeats 8000000 in
set_option maxRecDepth 100000 in
theorem right_goto (t : Int) (PA : Option Addr) (pc : Nat) (w : World) : Calls Tryd.prog 32 #[(Nd.goto t).pn.val PA pc] w (RightAt (Nd.goto t) w) := by
  have hb : Below w.heap.size w w := Below.refl _ _
  unfold RightAt
  dsimp only [Nd.pn, Pn.val, Nd.fieldsS, List.length]
  go_enter Tryd.func32, Tryd.ntmps32
  go_wp2_with fail
  go_ret
  exact ⟨rfl, hb.alloc (Nat.le_refl _) _⟩

set_option maxHeartbeats 8000000 in
set_option maxRecDepth 100000 in
theorem right_branch (c t : Int) (PA : Option Addr) (pc : Nat) (w : World) : Calls Tryd.prog 32 #[(Nd.branch c t).pn.val PA pc] w (RightAt (Nd.branch c t) w) := by
  have hb : Below w.heap.size w w := Below.refl _ _
  unfold RightAt
  dsimp only [Nd.pn, Pn.val, Nd.fieldsS, List.length]
  go_enter Tryd.func32, Tryd.ntmps32
  go_wp2_with fail
  go_ret
  exact ⟨rfl, hb.alloc (Nat.le_refl _) _⟩

set_option maxHeartbeats 8000000 in
set_option maxRecDepth 100000 in
theorem right_bin (op d a b : Int) (PA : Option Addr) (pc : Nat) (w : World) : Calls Tryd.prog 32 #[(Nd.bin op d a b).pn.val PA pc] w (RightAt (Nd.bin op d a b) w) := by
  have hb : Below w.heap.size w w := Below.refl _ _
  unfold RightAt
  dsimp only [Nd.pn, Pn.val, Nd.fieldsS, List.length]
  unfold binS
  by_cases h0 : 6 ≤ op
  · by_cases h1 : op ≤ 14
    · rw [decide_eq_true (by omega)]
      go_enter Tryd.func32, Tryd.ntmps32
      go_wp2_with fail
      go_ret
      exact ⟨rfl, hb.alloc (Nat.le_refl _) _⟩
    · by_cases h2 : op = 19
      · subst h2
        go_enter Tryd.func32, Tryd.ntmps32
        go_wp2_with fail
        go_ret
        exact ⟨rfl, hb.alloc (Nat.le_refl _) _⟩
      · have g2 : (op == 19) = false := by simp [h2]
        by_cases h3 : op = 20
        · subst h3
          go_enter Tryd.func32, Tryd.ntmps32
          go_wp2_with fail
          go_ret
          exact ⟨rfl, hb.alloc (Nat.le_refl _) _⟩
        · have g3 : (op == 20) = false := by simp [h3]
          by_cases h4 : op = 21
          · subst h4
            go_enter Tryd.func32, Tryd.ntmps32
            go_wp2_with fail
            go_ret
            exact ⟨rfl, hb.alloc (Nat.le_refl _) _⟩
          · have g4 : (op == 21) = false := by simp [h4]
            rw [decide_eq_false (by omega)]
            go_enter Tryd.func32, Tryd.ntmps32
            go_wp2_with fail
            go_ret
            exact ⟨rfl, hb.alloc (Nat.le_refl _) _⟩
  · have g2 : (op == 19) = false := by simp; omega
    have g3 : (op == 20) = false := by simp; omega
    have g4 : (op == 21) = false := by simp; omega
    rw [decide_eq_false (by omega)]
    go_enter Tryd.func32, Tryd.ntmps32
    go_wp2_with fail
    go_ret
    exact ⟨rfl, hb.alloc (Nat.le_refl _) _⟩

set_option maxHeartbeats 8000000 in
set_option maxRecDepth 100000 in
theorem right_un (op d a : Int) (PA : Option Addr) (pc : Nat) (w : World) : Calls Tryd.prog 32 #[(Nd.un op d a).pn.val PA pc] w (RightAt (Nd.un op d a) w) := by
  have hb : Below w.heap.size w w := Below.refl _ _
  unfold RightAt
  dsimp only [Nd.pn, Pn.val, Nd.fieldsS, List.length]
  unfold unS
  by_cases h2 : op = 15
  · subst h2
    go_enter Tryd.func32, Tryd.ntmps32
    go_wp2_with fail
    go_ret
    exact ⟨rfl, hb.alloc (Nat.le_refl _) _⟩
  · have g2 : (op == 15) = false := by simp [h2]
    by_cases h3 : op = 16
    · subst h3
      go_enter Tryd.func32, Tryd.ntmps32
      go_wp2_with fail
      go_ret
      exact ⟨rfl, hb.alloc (Nat.le_refl _) _⟩
    · have g3 : (op == 16) = false := by simp [h3]
      by_cases h4 : op = 26
      · subst h4
        go_enter Tryd.func32, Tryd.ntmps32
        go_wp2_with fail
        go_ret
        exact ⟨rfl, hb.alloc (Nat.le_refl _) _⟩
      · have g4 : (op == 26) = false := by simp [h4]
        rw [decide_eq_false (by omega)]
        go_enter Tryd.func32, Tryd.ntmps32
        go_wp2_with fail
        go_ret
        exact ⟨rfl, hb.alloc (Nat.le_refl _) _⟩

set_option maxHeartbeats 8000000 in
set_option maxRecDepth 100000 in
theorem right_getf (d f : Int) (PA : Option Addr) (pc : Nat) (w : World) : Calls Tryd.prog 32 #[(Nd.getf d f).pn.val PA pc] w (RightAt (Nd.getf d f) w) := by
  have hb : Below w.heap.size w w := Below.refl _ _
  unfold RightAt
  dsimp only [Nd.pn, Pn.val, Nd.fieldsS, List.length]
  unfold inS
  by_cases h0 : 0 ≤ f
  · by_cases h1 : f < 8
    · rw [decide_eq_true h0, decide_eq_true h1]
      go_enter Tryd.func32, Tryd.ntmps32
      go_wp2_with fail
      go_ret
      exact ⟨rfl, hb.alloc (Nat.le_refl _) _⟩
    · rw [decide_eq_true h0, decide_eq_false h1]
      go_enter Tryd.func32, Tryd.ntmps32
      go_wp2_with fail
      go_ret
      exact ⟨rfl, hb.alloc (Nat.le_refl _) _⟩
  · rw [decide_eq_false h0]
    go_enter Tryd.func32, Tryd.ntmps32
    go_wp2_with fail
    go_ret
    exact ⟨rfl, hb.alloc (Nat.le_refl _) _⟩

set_option maxHeartbeats 8000000 in
set_option maxRecDepth 100000 in
theorem right_putf (f s : Int) (PA : Option Addr) (pc : Nat) (w : World) : Calls Tryd.prog 32 #[(Nd.putf f s).pn.val PA pc] w (RightAt (Nd.putf f s) w) := by
  have hb : Below w.heap.size w w := Below.refl _ _
  unfold RightAt
  dsimp only [Nd.pn, Pn.val, Nd.fieldsS, List.length]
  unfold inS
  by_cases h0 : 0 ≤ f
  · by_cases h1 : f < 8
    · rw [decide_eq_true h0, decide_eq_true h1]
      go_enter Tryd.func32, Tryd.ntmps32
      go_wp2_with fail
      go_ret
      exact ⟨rfl, hb.alloc (Nat.le_refl _) _⟩
    · rw [decide_eq_true h0, decide_eq_false h1]
      go_enter Tryd.func32, Tryd.ntmps32
      go_wp2_with fail
      go_ret
      exact ⟨rfl, hb.alloc (Nat.le_refl _) _⟩
  · rw [decide_eq_false h0]
    go_enter Tryd.func32, Tryd.ntmps32
    go_wp2_with fail
    go_ret
    exact ⟨rfl, hb.alloc (Nat.le_refl _) _⟩

set_option maxHeartbeats 8000000 in
set_option maxRecDepth 100000 in
theorem right_call (m d : Int) (A : Option Addr) (c : Nat) (xs : List Int) (PA : Option Addr) (pc : Nat) (w : World) : Calls Tryd.prog 32 #[(Nd.call m d A c xs).pn.val PA pc] w (RightAt (Nd.call m d A c xs) w) := by
  have hb : Below w.heap.size w w := Below.refl _ _
  unfold RightAt
  dsimp only [Nd.pn, Pn.val, Nd.fieldsS]
  unfold inS
  obtain ⟨L, hL⟩ : ∃ L, xs.length = L := ⟨_, rfl⟩
  rw [hL]
  clear hL
  by_cases h0 : 0 ≤ m
  · by_cases h1 : m < 8
    · by_cases h2 : L ≤ 4
      · rw [decide_eq_true h0, decide_eq_true h1, decide_eq_true h2]
        have h2' : (L : Int) ≤ 4 := by omega
        go_enter Tryd.func32, Tryd.ntmps32
        go_wp2_with fail
        go_ret
        exact ⟨rfl, hb.alloc (Nat.le_refl _) _⟩
      · rw [decide_eq_true h0, decide_eq_true h1, decide_eq_false h2]
        have h2' : ¬ (L : Int) ≤ 4 := by omega
        go_enter Tryd.func32, Tryd.ntmps32
        go_wp2_with fail
        go_ret
        exact ⟨rfl, hb.alloc (Nat.le_refl _) _⟩
    · rw [decide_eq_true h0, decide_eq_false h1]
      go_enter Tryd.func32, Tryd.ntmps32
      go_wp2_with fail
      go_ret
      exact ⟨rfl, hb.alloc (Nat.le_refl _) _⟩
  · rw [decide_eq_false h0]
    go_enter Tryd.func32, Tryd.ntmps32
    go_wp2_with fail
    go_ret
    exact ⟨rfl, hb.alloc (Nat.le_refl _) _⟩

set_option maxHeartbeats 8000000 in
set_option maxRecDepth 100000 in
theorem right_callx (m d : Int) (A : Option Addr) (c : Nat) (xs : List Int) (PA : Option Addr) (pc : Nat) (w : World) : Calls Tryd.prog 32 #[(Nd.callx m d A c xs).pn.val PA pc] w (RightAt (Nd.callx m d A c xs) w) := by
  have hb : Below w.heap.size w w := Below.refl _ _
  unfold RightAt
  dsimp only [Nd.pn, Pn.val, Nd.fieldsS]
  unfold inS
  obtain ⟨L, hL⟩ : ∃ L, xs.length = L := ⟨_, rfl⟩
  rw [hL]
  clear hL
  by_cases h0 : 0 ≤ m
  · by_cases h1 : m < 4
    · by_cases h2 : L ≤ 4
      · rw [decide_eq_true h0, decide_eq_true h1, decide_eq_true h2]
        have h2' : (L : Int) ≤ 4 := by omega
        go_enter Tryd.func32, Tryd.ntmps32
        go_wp2_with fail
        go_ret
        exact ⟨rfl, hb.alloc (Nat.le_refl _) _⟩
      · rw [decide_eq_true h0, decide_eq_true h1, decide_eq_false h2]
        have h2' : ¬ (L : Int) ≤ 4 := by omega
        go_enter Tryd.func32, Tryd.ntmps32
        go_wp2_with fail
        go_ret
        exact ⟨rfl, hb.alloc (Nat.le_refl _) _⟩
    · rw [decide_eq_true h0, decide_eq_false h1]
      go_enter Tryd.func32, Tryd.ntmps32
      go_wp2_with fail
      go_ret
      exact ⟨rfl, hb.alloc (Nat.le_refl _) _⟩
  · rw [decide_eq_false h0]
    go_enter Tryd.func32, Tryd.ntmps32
    go_wp2_with fail
    go_ret
    exact ⟨rfl, hb.alloc (Nat.le_refl _) _⟩

set_option maxHeartbeats 8000000 in
set_option maxRecDepth 100000 in
theorem right_ret (s : Int) (PA : Option Addr) (pc : Nat) (w : World) : Calls Tryd.prog 32 #[(Nd.ret s).pn.val PA pc] w (RightAt (Nd.ret s) w) := by
  have hb : Below w.heap.size w w := Below.refl _ _
  unfold RightAt
  dsimp only [Nd.pn, Pn.val, Nd.fieldsS]
  obtain ⟨L, hL⟩ : ∃ L, (if s = -1 then ([] : List Int) else [s]).length = L := ⟨_, rfl⟩
  have h1 : (L : Int) ≤ 1 := by rw [← hL]; split <;> simp
  rw [hL]
  clear hL
  go_enter Tryd.func32, Tryd.ntmps32
  go_wp2_with fail
  go_ret
  exact ⟨rfl, hb.alloc (Nat.le_refl _) _⟩

set_option maxHeartbeats 8000000 in
set_option maxRecDepth 100000 in
theorem right_serve (op a b d : Int) (A : Option Addr) (c : Nat) (xs : List Int) (PA : Option Addr) (pc : Nat) (w : World) : Calls Tryd.prog 32 #[(Nd.serve op a b d A c xs).pn.val PA pc] w (RightAt (Nd.serve op a b d A c xs) w) := by
  have hb : Below w.heap.size w w := Below.refl _ _
  unfold RightAt
  dsimp only [Nd.pn, Pn.val, Nd.fieldsS]
  have KP := Lib.hid (Blk.new w 30 #[.int .i64 11, .int .i64 d, .int .i64 op, .int .i64 0, .int .i64 a, .int .i64 b, .int .i64 0, .slice PA xs.length pc])
  have hs := fun w => refServes_c op w
  obtain ⟨L, hL⟩ : ∃ L, xs.length = L := ⟨_, rfl⟩
  rw [hL] at KP ⊢
  clear hL
  obtain ⟨q, hq⟩ : ∃ q, serS op = q := ⟨_, rfl⟩
  have hq1 : q = -1 ∨ 0 ≤ q := by rw [← hq]; unfold serS; (repeat' split) <;> omega
  rw [hq] at hs ⊢
  clear hq
  have HS := Lib.hid hs
  clear hs
  go_enter Tryd.func32, Tryd.ntmps32
  go_wp2_with fail
  refine (HS.out _).mono ?_
  rintro e w' ⟨rfl, rfl⟩
  by_cases h0 : 0 ≤ q
  · by_cases h1 : q = (L : Int)
    · have h1' : ((L : Int) == q) = true := by simp [h1]
      have h1'' : (q == (L : Int)) = true := by simp [h1]
      go_wp2_with fail
      go_ret
      exact ⟨by first | (rw [h1'']; rfl) | rfl | (simp [h1'']; done), hb.alloc (Nat.le_refl _) _⟩
    · have h1' : ((L : Int) == q) = false := by simp; omega
      have h1'' : (q == (L : Int)) = false := by simp [h1]
      go_wp2_with fail
      go_ret
      exact ⟨by first | (rw [h1'']; rfl) | rfl | (simp [h1'']; done), hb.alloc (Nat.le_refl _) _⟩
  · have h1'' : (q == (L : Int)) = false := by simp; omega
    go_wp2_with fail
    go_ret
    exact ⟨by first | (rw [h1'']; rfl) | rfl | (simp [h1'']; done), hb.alloc (Nat.le_refl _) _⟩

theorem refRight_c (n : Nd) (PA : Option Addr) (pc : Nat) (w : World) : Calls Tryd.prog 32 #[n.pn.val PA pc] w fun e w' => e = .returned (.bool n.fieldsS) ∧ Below w.heap.size w w' := by
  cases n with
  | none => exact right_none PA pc w
  | const d n => exact right_const d n PA pc w
  | move d a => exact right_move d a PA pc w
  | bin op d a b => exact right_bin op d a b PA pc w
  | un op d a => exact right_un op d a PA pc w
  | choose d c a b => exact right_choose d c a b PA pc w
  | tick => exact right_tick PA pc w
  | goto t => exact right_goto t PA pc w
  | branch c t => exact right_branch c t PA pc w
  | getf d f => exact right_getf d f PA pc w
  | putf f s => exact right_putf f s PA pc w
  | serve op a b d A c xs => exact right_serve op a b d A c xs PA pc w
  | call m d A c xs => exact right_call m d A c xs PA pc w
  | callx m d A c xs => exact right_callx m d A c xs PA pc w
  | ret s => exact right_ret s PA pc w
end Go.Proofs.YtilifniflpbbkaaDoor
