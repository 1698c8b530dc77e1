/- ir's Check. -/
import Derived.Test.YtilifniflpbbkaaDoorIr2
namespace Go.Proofs.YtilifniflpbbkaaDoor
open Go.RowKit On
def CheckP (params regs : Int) (l : List Nd) : Prop :=
  1 ≤ l.length ∧ l.length ≤ 250 ∧ inS regs 41 = true ∧ inS params 5 = true ∧ params ≤ regs ∧ ∀ (k : Nat) (n : Nd), l[k]? = some n → n.rightS regs l.length k = true
/-- a Bool is handed back that tells P -/
def Tells (P : Prop) (w : World) (e : Ending) (w' : World) : Prop := ∃ b : Bool, e = .returned (.bool b) ∧ (b = true ↔ P) ∧ Below w.heap.size w w'
set_option maxHeartbeats 16000000 in
set_option maxRecDepth 100000 in
theorem check_c (params regs : Int) (A : Option Addr) (c : Nat) (l : List Nd) (w : World) (hl : Nodes w A l) :
    Calls Tryd.prog 22 #[.agg #[.int .i64 params, .int .i64 regs, .slice A l.length c]] w (Tells (CheckP params regs l) w) := by
  have HB0 : Hid (Below w.heap.size w (w.alloc (.cells #[.int .i64 params, .int .i64 regs, .slice A l.length c] 46))) := (Below.refl _ _).alloc (Nat.le_refl _) _
  have KP := Lib.hid (Blk.new w 46 #[.int .i64 params, .int .i64 regs, .slice A l.length c])
  have HL := Lib.hid (hl.keep HB0.out)
  have HP : Hid (CheckP params regs l ↔ 1 ≤ l.length ∧ l.length ≤ 250 ∧ inS regs 41 = true ∧ inS params 5 = true ∧ params ≤ regs ∧ ∀ (k : Nat) (n : Nd), l[k]? = some n → n.rightS regs l.length k = true) := Iff.rfl
  have hno : Hid (¬ (1 ≤ l.length ∧ l.length ≤ 250 ∧ inS regs 41 = true ∧ inS params 5 = true ∧ params ≤ regs) → (false = true ↔ CheckP params regs l)) := fun h => by
    rw [HP.out]; simp only [Bool.false_eq_true, false_iff]; rintro ⟨h1, h2, h3, h4, h5, _⟩; exact h ⟨h1, h2, h3, h4, h5⟩
  clear hl
  by_cases h1 : (l.length : Int) < 1
  · go_enter Tryd.func22, Tryd.ntmps22
    go_wp2_with fail
    go_ret
    exact ⟨false, rfl, hno.out (fun h => by omega), HB0.out⟩
  by_cases h2 : (l.length : Int) > 250
  · go_enter Tryd.func22, Tryd.ntmps22
    go_wp2_with fail
    go_ret
    exact ⟨false, rfl, hno.out (fun h => by omega), HB0.out⟩
  obtain ⟨wp, hwp⟩ : ∃ wp, wp = w.alloc (.cells #[.int .i64 params, .int .i64 regs, .slice A l.length c] 46) := ⟨_, rfl⟩
  rw [← hwp] at HL KP HB0
  go_enter Tryd.func22, Tryd.ntmps22
  go_wp2_with fail
  rw [← hwp]
  clear hwp
  refine (in_c regs 41 _).mono ?_
  rintro e w' ⟨rfl, rfl⟩
  have p0 := KP.out.cell 0
  have p1 := KP.out.cell 1
  have p2 := KP.out.cell 2
  simp at p0 p1 p2
  cases h3 : inS regs 41
  · go_wp2_with fail
    go_ret
    exact ⟨false, rfl, hno.out (fun h => by rw [h3] at h; simp at h), HB0.out⟩
  go_wp2_with fail
  refine (in_c params 5 _).mono ?_
  rintro e w' ⟨rfl, rfl⟩
  cases h4 : inS params 5
  · go_wp2_with fail
    go_ret
    exact ⟨false, rfl, hno.out (fun h => by rw [h4] at h; simp at h), HB0.out⟩
  by_cases h5 : params > regs
  · go_wp2_with fail
    go_ret
    exact ⟨false, rfl, hno.out (fun h => by omega), HB0.out⟩
  go_wp2_with fail
  have HYES : Hid (¬ (l.length : Int) < 1 ∧ ¬ (l.length : Int) > 250 ∧ ¬ params > regs ∧ inS regs 41 = true ∧ inS params 5 = true) := ⟨by omega, by omega, by omega, h3, h4⟩
  clear hno h1 h3 h4 h5
  have p3 := p0
  go_loopw [37] (fun i wx => ∃ k : Nat, k ≤ l.length ∧ i = .int .i64 k ∧ Below w.heap.size w wx ∧ Blk wx w.heap.size 46 #[.int .i64 params, .int .i64 regs, .slice A l.length c] ∧ Nodes wx A l ∧ ∀ (j : Nat) (n : Nd), j < k → l[j]? = some n → n.rightS regs l.length j = true) (fun i _ => l.length - (intOf i).toNat)
  case atStart => exact ⟨0, Nat.zero_le _, rfl, HB0.out, KP.out, HL.out, fun j n h => by omega⟩
  case round =>
    clear p0 p1 p2 p3
    obtain ⟨k, hk, rfl, hb, hp, hn, hall⟩ := hrel
    have HBR := Lib.hid hb; have HPR := Lib.hid hp; have HNR := Lib.hid hn; have HALL := Lib.hid hall
    have p0 := hp.cell 0
    have p1 := hp.cell 1
    have p2 := hp.cell 2
    simp at p0 p1 p2
    clear hb hp hn hall HB0 KP HL
    by_cases hlt : k < l.length
    · obtain ⟨hok, g, o, rfl, hck⟩ := HNR.out k _ (List.getElem?_eq_getElem hlt)
      have HOK := Lib.hid hok
      have HG : Hid (l[k]? = some (l[k]'hlt)) := List.getElem?_eq_getElem hlt
      have h2' : ¬ (l.length : Int) > 250 := by omega
      generalize l[k]'hlt = n at *
      clear hok
      go_wp2_with fail
      refine (right_c params regs (some ⟨g, o, none⟩) l.length c n (k : Int) (by omega) (by omega) _ HOK.out).mono ?_
      rintro e w1 ⟨rfl, hb⟩
      have HB1 := Lib.hid (HBR.out.trans (hb.mono HBR.out.size))
      have HP1 := Lib.hid (HPR.out.only (S := fun _ => False) (Only.of_below hb) id)
      have HN1 := Lib.hid (HNR.out.keep hb)
      clear hb HBR HPR HNR p0 p1 p2
      cases hr : n.rightS regs l.length k
      · go_wp2_with fail
        go_ret
        refine ⟨false, rfl, ?_, HB1.out⟩
        rw [HP.out]
        simp only [Bool.false_eq_true, false_iff]
        rintro ⟨_, _, _, _, _, h⟩
        have := h k n HG.out
        rw [hr] at this
        cases this
      · have HR := Lib.hid hr
        clear hr
        go_wp2_with fail
        go_roundw
        case rel =>
          refine ⟨k + 1, by omega, by go_num, HB1.out, HP1.out, HN1.out, fun j m hj hm => ?_⟩
          by_cases e : j = k
          · subst e
            rw [HG.out] at hm
            cases hm
            exact HR.out
          · exact HALL.out j m (by omega) hm
        case measure => simp [intOf]; omega
    · go_wp2_with fail
      go_ret
      refine ⟨true, rfl, ?_, HBR.out⟩
      rw [HP.out]
      obtain ⟨h1, h2, h5, h3, h4⟩ := HYES.out
      simp only [true_iff]
      exact ⟨by omega, by omega, h3, h4, by omega, fun j m hm => HALL.out j m (by have := (List.getElem?_eq_some_iff.mp hm).1; omega) hm⟩
end Go.Proofs.YtilifniflpbbkaaDoor
