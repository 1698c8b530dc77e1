/- ir's in, binary, unary, serves, fields, bare. -/
import Derived.Test.YtilifniflpbbkaaDoorNd
import Derived.Deep.RegionHeld3
import Derived.Deep.QuietTactic
import Derived.BigQuiet
namespace Go.Proofs.YtilifniflpbbkaaDoor
open Go.RowKit On
theorem belowN {B : Nat} {a w : World} (h : Below B a w) (n : Nat) : Below B a (w.drewN n) := ⟨h.os, h.tape, h.output, h.size, h.block⟩
def inS (n c : Int) : Bool := decide (0 ≤ n) && decide (n < c)
theorem in_c (n c : Int) (w : World) : Calls Tryd.prog 30 #[.int .i64 n, .int .i64 c] w fun e w' => e = .returned (.bool (inS n c)) ∧ w = w' := by
  unfold inS
  by_cases h0 : 0 ≤ n
  · have g0 : decide (n ≥ 0) = true := decide_eq_true h0
    by_cases h1 : n < c
    · rw [decide_eq_true h0, decide_eq_true h1]
      go_enter Tryd.func30, Tryd.ntmps30
      go_wp2_with fail
      go_ret
      exact ⟨rfl, rfl⟩
    · rw [decide_eq_true h0, decide_eq_false h1]
      go_enter Tryd.func30, Tryd.ntmps30
      go_wp2_with fail
      go_ret
      exact ⟨rfl, rfl⟩
  · rw [decide_eq_false h0]
    go_enter Tryd.func30, Tryd.ntmps30
    go_wp2_with fail
    go_ret
    exact ⟨rfl, rfl⟩
def binS (op : Int) : Bool := decide (6 ≤ op ∧ op ≤ 14 ∨ 19 ≤ op ∧ op ≤ 21)
theorem binary_c (op : Int) (w : World) : Calls Tryd.prog 45 #[.int .i64 op] w fun e w' => e = .returned (.bool (binS op)) ∧ w = w' := by
  unfold binS
  by_cases h0 : 6 ≤ op
  · by_cases h1 : op ≤ 14
    · rw [decide_eq_true (by omega)]
      go_enter Tryd.func45, Tryd.ntmps45
      go_wp2_with fail
      go_ret
      exact ⟨rfl, rfl⟩
    · by_cases h2 : 19 ≤ op
      · by_cases h3 : op ≤ 21
        · rw [decide_eq_true (by omega)]
          go_enter Tryd.func45, Tryd.ntmps45
          go_wp2_with fail
          go_ret
          exact ⟨rfl, rfl⟩
        · rw [decide_eq_false (by omega)]
          go_enter Tryd.func45, Tryd.ntmps45
          go_wp2_with fail
          go_ret
          exact ⟨rfl, rfl⟩
      · rw [decide_eq_false (by omega)]
        go_enter Tryd.func45, Tryd.ntmps45
        go_wp2_with fail
        go_ret
        exact ⟨rfl, rfl⟩
  · have h2 : ¬ 19 ≤ op := by omega
    rw [decide_eq_false (by omega)]
    go_enter Tryd.func45, Tryd.ntmps45
    go_wp2_with fail
    go_ret
    exact ⟨rfl, rfl⟩
def unS (op : Int) : Bool := decide (op = 15 ∨ op = 16 ∨ op = 26)
theorem unary_c (op : Int) (w : World) : Calls Tryd.prog 46 #[.int .i64 op] w fun e w' => e = .returned (.bool (unS op)) ∧ w = w' := by
  unfold unS
  by_cases h0 : op = 15
  · subst h0
    go_enter Tryd.func46, Tryd.ntmps46
    go_wp2_with fail
    go_ret
    exact ⟨rfl, rfl⟩
  · have g0 : (op == 15) = false := by simp [h0]
    by_cases h1 : op = 16
    · subst h1
      go_enter Tryd.func46, Tryd.ntmps46
      go_wp2_with fail
      go_ret
      exact ⟨rfl, rfl⟩
    · have g1 : (op == 16) = false := by simp [h1]
      by_cases h2 : op = 26
      · subst h2
        go_enter Tryd.func46, Tryd.ntmps46
        go_wp2_with fail
        go_ret
        exact ⟨rfl, rfl⟩
      · have g2 : (op == 26) = false := by simp [h2]
        rw [decide_eq_false (by omega)]
        go_enter Tryd.func46, Tryd.ntmps46
        go_wp2_with fail
        go_ret
        exact ⟨rfl, rfl⟩
def serS (op : Int) : Int := if op = 27 ∨ op = 28 then 1 else if op = 17 ∨ op = 18 ∨ op = 29 then 2 else if op = 30 ∨ op = 36 then 3 else if op = 31 ∨ op = 32 then 5 else -1
theorem serves_c (op : Int) (w : World) : Calls Tryd.prog 47 #[.int .i64 op] w fun e w' => e = .returned (.int .i64 (serS op)) ∧ w = w' := by
  by_cases h27 : op = 27
  · subst h27
    go_enter Tryd.func47, Tryd.ntmps47
    go_wp2_with fail
    go_ret
    exact ⟨rfl, rfl⟩
  have g27 : (op == 27) = false := by simp [h27]
  by_cases h28 : op = 28
  · subst h28
    go_enter Tryd.func47, Tryd.ntmps47
    go_wp2_with fail
    go_ret
    exact ⟨rfl, rfl⟩
  have g28 : (op == 28) = false := by simp [h28]
  by_cases h17 : op = 17
  · subst h17
    go_enter Tryd.func47, Tryd.ntmps47
    go_wp2_with fail
    go_ret
    exact ⟨rfl, rfl⟩
  have g17 : (op == 17) = false := by simp [h17]
  by_cases h18 : op = 18
  · subst h18
    go_enter Tryd.func47, Tryd.ntmps47
    go_wp2_with fail
    go_ret
    exact ⟨rfl, rfl⟩
  have g18 : (op == 18) = false := by simp [h18]
  by_cases h29 : op = 29
  · subst h29
    go_enter Tryd.func47, Tryd.ntmps47
    go_wp2_with fail
    go_ret
    exact ⟨rfl, rfl⟩
  have g29 : (op == 29) = false := by simp [h29]
  by_cases h30 : op = 30
  · subst h30
    go_enter Tryd.func47, Tryd.ntmps47
    go_wp2_with fail
    go_ret
    exact ⟨rfl, rfl⟩
  have g30 : (op == 30) = false := by simp [h30]
  by_cases h36 : op = 36
  · subst h36
    go_enter Tryd.func47, Tryd.ntmps47
    go_wp2_with fail
    go_ret
    exact ⟨rfl, rfl⟩
  have g36 : (op == 36) = false := by simp [h36]
  by_cases h31 : op = 31
  · subst h31
    go_enter Tryd.func47, Tryd.ntmps47
    go_wp2_with fail
    go_ret
    exact ⟨rfl, rfl⟩
  have g31 : (op == 31) = false := by simp [h31]
  by_cases h32 : op = 32
  · subst h32
    go_enter Tryd.func47, Tryd.ntmps47
    go_wp2_with fail
    go_ret
    exact ⟨rfl, rfl⟩
  have g32 : (op == 32) = false := by simp [h32]
  unfold serS
  rw [if_neg (by omega), if_neg (by omega), if_neg (by omega), if_neg (by omega)]
  go_enter Tryd.func47, Tryd.ntmps47
  go_wp2_with fail
  go_ret
  exact ⟨rfl, rfl⟩
namespace Nd
def fieldsS : Nd → Bool
  | none => false
  | bin op _ _ _ => binS op
  | un op _ _ => unS op
  | getf _ f => inS f 8
  | putf f _ => inS f 8
  | serve op _ _ _ _ _ xs => serS op == (xs.length : Int)
  | call m _ _ _ xs => inS m 8 && decide (xs.length ≤ 4)
  | callx m _ _ _ xs => inS m 4 && decide (xs.length ≤ 4)
  | _ => true
def bareS : Nd → Bool
  | const _ _ | move _ _ | bin _ _ _ _ | un _ _ _ | choose _ _ _ _ | getf _ _ => false
  | _ => true
end Nd
set_option maxHeartbeats 4000000 in
theorem bare_c (n : Nd) (w : World) : Calls Tryd.prog 39 #[n.val] w fun e w' => e = .returned (.bool n.bareS) ∧ w = w' := by
  have aConst := taConst; have nConst := tnConst
  have aMove := taMove; have nMove := tnMove
  have aBin := taBin; have nBin := tnBin
  have aUn := taUn; have nUn := tnUn
  have aChoose := taChoose; have nChoose := tnChoose
  have aGetField := taGetField; have nGetField := tnGetField
  cases n <;> dsimp only [Nd.val, Nd.bareS]
  all_goals
    go_enter Tryd.func39, Tryd.ntmps39
    go_wp2_with fail
    go_ret
    exact ⟨rfl, rfl⟩
set_option maxHeartbeats 8000000 in
theorem fields_c (n : Nd) (w : World) : Calls Tryd.prog 38 #[n.val] w fun e w' => e = .returned (.bool n.fieldsS) ∧ Below w.heap.size w w' := by
  have aBin := taBin; have nBin := tnBin
  have aUn := taUn; have nUn := tnUn
  have aGetField := taGetField; have nGetField := tnGetField
  have aPutField := taPutField; have nPutField := tnPutField
  have aServe := taServe; have nServe := tnServe
  have aCall := taCall; have nCall := tnCall
  have aCallX := taCallX; have nCallX := tnCallX
  have hb : Below w.heap.size w w := Below.refl _ _
  cases n
  case bin op d a b =>
    dsimp only [Nd.val, Nd.fieldsS]
    go_enter Tryd.func38, Tryd.ntmps38
    go_wp2_with fail
    refine (binary_c op _).mono ?_
    rintro e w' ⟨rfl, rfl⟩
    go_wp2_with fail
    go_ret
    exact ⟨rfl, hb.alloc (Nat.le_refl _) _⟩
  case un op d a =>
    dsimp only [Nd.val, Nd.fieldsS]
    go_enter Tryd.func38, Tryd.ntmps38
    go_wp2_with fail
    refine (unary_c op _).mono ?_
    rintro e w' ⟨rfl, rfl⟩
    go_wp2_with fail
    go_ret
    exact ⟨rfl, hb.alloc (Nat.le_refl _) _⟩
  case getf d f =>
    dsimp only [Nd.val, Nd.fieldsS]
    go_enter Tryd.func38, Tryd.ntmps38
    go_wp2_with fail
    refine (in_c f 8 _).mono ?_
    rintro e w' ⟨rfl, rfl⟩
    go_wp2_with fail
    go_ret
    exact ⟨rfl, hb.alloc (Nat.le_refl _) _⟩
  case putf f s =>
    dsimp only [Nd.val, Nd.fieldsS]
    go_enter Tryd.func38, Tryd.ntmps38
    go_wp2_with fail
    refine (in_c f 8 _).mono ?_
    rintro e w' ⟨rfl, rfl⟩
    go_wp2_with fail
    go_ret
    exact ⟨rfl, hb.alloc (Nat.le_refl _) _⟩
  case call m d A c xs =>
    dsimp only [Nd.val, Nd.fieldsS]
    have hln : decide ((xs.length : Int) ≤ 4) = decide (xs.length ≤ 4) := by rw [decide_eq_decide]; omega
    generalize xs.length = n at *
    go_enter Tryd.func38, Tryd.ntmps38
    go_wp2_with fail
    refine (in_c m 8 _).mono ?_
    rintro e w' ⟨rfl, rfl⟩
    cases hm : inS m 8
    · go_wp2_with fail
      go_ret
      exact ⟨by rw [hm]; rfl, hb.alloc (Nat.le_refl _) _⟩
    · go_wp2_with fail
      go_ret
      exact ⟨by rw [hm]; rfl, hb.alloc (Nat.le_refl _) _⟩
  case callx m d A c xs =>
    dsimp only [Nd.val, Nd.fieldsS]
    have hln : decide ((xs.length : Int) ≤ 4) = decide (xs.length ≤ 4) := by rw [decide_eq_decide]; omega
    generalize xs.length = n at *
    go_enter Tryd.func38, Tryd.ntmps38
    go_wp2_with fail
    refine (in_c m 4 _).mono ?_
    rintro e w' ⟨rfl, rfl⟩
    cases hm : inS m 4
    · go_wp2_with fail
      go_ret
      exact ⟨by rw [hm]; rfl, hb.alloc (Nat.le_refl _) _⟩
    · go_wp2_with fail
      go_ret
      exact ⟨by rw [hm]; rfl, hb.alloc (Nat.le_refl _) _⟩
  case serve op a b d A c xs =>
    dsimp only [Nd.val, Nd.fieldsS]
    have p1 := fun w => (serves_c op w).mono (R' := fun e w' => e = .returned (.int .i64 (serS op)) ∧ w' = w) (fun _ _ ⟨h1, h2⟩ => ⟨h1, h2.symm⟩)
    generalize serS op = k at *
    generalize xs.length = n at *
    go_enter Tryd.func38, Tryd.ntmps38
    go_wp2_with fail
    go_quiet (first | (go_at_call 47; first | (with_reducible exact Calls.quiet_of_same (p1 _))))
    go_wp2_with fail
    go_ret
    exact ⟨rfl, belowN (hb.alloc (Nat.le_refl _) _) _⟩
  all_goals
    dsimp only [Nd.val, Nd.fieldsS]
    go_enter Tryd.func38, Tryd.ntmps38
    go_wp2_with fail
    go_ret
    exact ⟨rfl, hb⟩
end Go.Proofs.YtilifniflpbbkaaDoor
