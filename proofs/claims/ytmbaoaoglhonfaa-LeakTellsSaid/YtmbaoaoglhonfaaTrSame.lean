/- The contract of leak.Same. -/
import Derived.Test.YtmbaoaoglhonfaaTr
import Derived.Deep.QuietTactic
import Derived.BigQuiet
namespace Go.Proofs.Ytmbaoaoglhonfaa
open Go.RowKit On
def SamePost (w : World) (l k : List Ev) (e : Ending) (w' : World) : Prop := ∃ r, e = .returned (.int .i64 r) ∧ SameRes l k r ∧ ∃ q, w' = w.drewN q
theorem OTr.cells {w : World} {P : Option Addr} {l : List Ev} (h : OTr w P l) {i : Nat} (hi : i < l.length) :
    ∃ p g c, P = some ⟨p, 0, none⟩ ∧ w.cell? ⟨p, 0, none⟩ = some (.slice (some ⟨g, 0, none⟩) l.length c) ∧ w.cell? ⟨g, i * 4, none⟩ = some (.int .i64 (l[i]'hi).what) ∧ w.cell? ⟨g, i * 4 + 1, none⟩ = some (.int .i64 (l[i]'hi).a) ∧
      w.cell? ⟨g, i * 4 + 2, none⟩ = some (.int .i64 (l[i]'hi).b) ∧ w.cell? ⟨g, i * 4 + 3, none⟩ = some (.int .i64 (l[i]'hi).c) := by
  rcases h with ⟨_, rfl⟩ | ⟨p, g, rfl, v, h1, h2, h3⟩
  · simp at hi
  · obtain ⟨g, c, rfl, r⟩ := Tr.at_ h2 hi
    have hc := h1.cell 0
    simp at hc
    exact ⟨p, g, c, rfl, hc, r⟩
theorem OTr.small {w : World} {P : Option Addr} {l : List Ev} (h : OTr w P l) : l.length ≤ 9223372036854775807 := by
  rcases h with ⟨_, rfl⟩ | ⟨p, g, rfl, v, h1, h2, h3⟩
  · simp
  · obtain ⟨A, c, rfl, ⟨_, h0, _⟩ | ⟨g, cur, rfl, _, _, ha, hb, _⟩⟩ := own_slice h2
    · omega
    · unfold maxLen at hb; omega
theorem take_succ_iff {l k : List Ev} {j : Nat} (hl : j < l.length) (hk : j < k.length) : l.take (j + 1) = k.take (j + 1) ↔ l.take j = k.take j ∧ l[j] = k[j] := by
  rw [List.take_succ_eq_append_getElem hl, List.take_succ_eq_append_getElem hk]
  constructor
  · intro h; have := List.append_inj' h rfl; exact ⟨this.1, by simpa using this.2⟩
  · rintro ⟨h1, h2⟩; rw [h1, h2]
set_option maxHeartbeats 1000000 in
theorem same_e (w : World) (P Q : Option Addr) (l k : List Ev) (h1 : OTr w P l) (h2 : OTr w Q k) :
    Calls Try.prog 16 #[.pointer P, .pointer Q] w (SamePost w l k) := by
  have hs1 := h1.small; have hs2 := h2.small
  have H1 := Lib.hid h1; clear h1
  have H2 := Lib.hid h2; clear h2
  by_cases hlt : k.length < l.length
  all_goals
    go_enter Try.func16, Try.ntmps16
    go_wp2_with (first
      | (go_at_call 14; (with_reducible refine (oLen_c _ P l H1.out).mono ?_); rintro e w' ⟨rfl, rfl⟩)
      | (go_at_call 14; (with_reducible refine (oLen_c _ Q k H2.out).mono ?_); rintro e w' ⟨rfl, rfl⟩))
    go_loopw [15] (fun i wr => ∃ j : Nat, j ≤ l.length ∧ j ≤ k.length ∧ i = .int .i64 j ∧ l.take j = k.take j ∧ ∃ q, wr = w.drewN q) (fun i _ => l.length - (intOf i).toNat)
    case atStart => exact ⟨0, Nat.zero_le _, Nat.zero_le _, rfl, rfl, 0, rfl⟩
    case round =>
      obtain ⟨j, hj1, hj2, rfl, ht, q, rfl⟩ := hrel
      have HT := Lib.hid ht; clear ht
      by_cases hj : j < l.length ∧ j < k.length
      · obtain ⟨hjl, hjk⟩ := hj
        obtain ⟨p1, g1, c1, rfl, a0, a1, a2, a3, a4⟩ := H1.out.cells hjl
        obtain ⟨p2, g2, c2, rfl, b0, b1, b2, b3, b4⟩ := H2.out.cells hjk
        by_cases he : l[j] = k[j]
        · rw [← he] at b1 b2 b3 b4
          have HE := Lib.hid ((take_succ_iff hjl hjk).mpr ⟨HT.out, he⟩)
          clear he
          generalize l[j].what = x1 at *
          generalize l[j].a = x2 at *
          generalize l[j].b = x3 at *
          generalize l[j].c = x4 at *
          go_wp2_with fail
          go_quiet (fail)
          go_wp2
          go_roundw
          case rel => exact ⟨j + 1, by omega, by omega, by go_num, HE.out, _, rfl⟩
          case measure => simp [intOf]; omega
        · have HE : Hid (l.take j = k.take j ∧ l[j]? ≠ k[j]?) := by
            refine ⟨HT.out, ?_⟩
            rw [List.getElem?_eq_getElem hjl, List.getElem?_eq_getElem hjk]
            intro e; injection e with e; exact he e
          have hne : ¬ (l[j].what = k[j].what ∧ l[j].a = k[j].a ∧ l[j].b = k[j].b ∧ l[j].c = k[j].c) := by
            rintro ⟨e1, e2, e3, e4⟩
            apply he
            revert e1 e2 e3 e4
            generalize l[j] = y1; generalize k[j] = y2
            cases y1; cases y2; simp
            intro e1 e2 e3 e4; exact ⟨e1, e2, e3, e4⟩
          clear he
          generalize l[j].what = x1 at *
          generalize l[j].a = x2 at *
          generalize l[j].b = x3 at *
          generalize l[j].c = x4 at *
          generalize k[j].what = y1 at *
          generalize k[j].a = y2 at *
          generalize k[j].b = y3 at *
          generalize k[j].c = y4 at *
          have hnr : ∀ w : World, (binOp .neq 28 (.agg #[.int .i64 x1, .int .i64 x2, .int .i64 x3, .int .i64 x4]) (.agg #[.int .i64 y1, .int .i64 y2, .int .i64 y3, .int .i64 y4])).run Try.prog w = .ok (.bool true) w := fun w => by
            rw [run_neq_ev, decide_eq_false hne]; rfl
          clear hne
          go_wp2_with fail
          go_quiet (fail)
          go_wp2
          go_ret
          exact ⟨_, rfl, .inr ⟨j, rfl, HE.out.1, HE.out.2⟩, _, World.drewN_drewN ..⟩
      · have hres : ∀ h : l.length = k.length, SameRes l k (-1) := fun h => by
          refine .inl ⟨rfl, ?_⟩
          have := HT.out
          rwa [List.take_of_length_le (by omega), List.take_of_length_le (by omega)] at this
        have hdiff : ∀ (r : Int) (_ : r = j) (h : l.length ≠ k.length), SameRes l k r := fun r hr h => by
          refine .inr ⟨j, hr, HT.out, ?_⟩
          intro e
          by_cases h2 : j < l.length
          · rw [List.getElem?_eq_getElem h2, List.getElem?_eq_none (by omega)] at e; cases e
          · rw [List.getElem?_eq_none (by omega), List.getElem?_eq_getElem (by omega)] at e; cases e
        have HR := Lib.hid hres; have HD := Lib.hid hdiff; clear hres hdiff
        by_cases heq : l.length = k.length
        · first
            | (exfalso; omega)
            | (have hb : ((l.length : Int) == (k.length : Int)) = true := by rw [beq_iff_eq]; omega
               have hjj : j = l.length := by omega
               have HQ := Lib.hid heq; clear heq
               subst hjj
               go_wp2
               go_ret
               exact ⟨_, rfl, HR.out HQ.out, _, rfl⟩)
        · have hb : ((l.length : Int) == (k.length : Int)) = false := by rw [beq_eq_false_iff_ne]; omega
          have HQ := Lib.hid heq; clear heq
          go_wp2
          go_ret
          exact ⟨_, rfl, HD.out _ (by omega) HQ.out, _, rfl⟩
end Go.Proofs.Ytmbaoaoglhonfaa
