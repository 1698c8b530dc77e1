/- Two heaps side by side; both: the two heaps of raw arrays. -/
import Derived.Test.YtjmpnkhgligdlaaWall
import Derived.Test.YtjmpnkhgligdlaaRows2
import Derived.Deep.DeepCutAuto
import Derived.IntWalk
namespace Go.Proofs.Ytjmpnkhgligdlaa
open Go.RowKit On Hv Go.Sort
open Classical in
/-- the arrays behind an Alloc -/
noncomputable def allocL (sz : Int) (L : List Ar) (owner label life : Int) (share : Bool) (n : Int) : List Ar := if Fits sz L label life n then L ++ [fresh owner label life share n] else L
open Classical in
noncomputable def allocN (sz : Int) (L : List Ar) (label life n : Int) : Int := if Fits sz L label life n then (L.length : Int) + 1 else 0
open Classical in
noncomputable def allocB (sz : Int) (L : List Ar) (label life n : Int) : Bool := decide (Fits sz L label life n)
theorem allocL_good {sz : Int} {L : List Ar} (h : Hv.Good sz L) (owner label life : Int) (share : Bool) (n : Int) : Hv.Good sz (allocL sz L owner label life share n) := by
  unfold allocL; split
  · exact h.push ‹_›
  · exact h
theorem At.same {u arrT ty : TypeId} {w w' : World} {B p : Nat} {sz : Int} {L : List Ar} {F : Nat → Prop} (h : At u arrT ty w B p sz L F) (hb : Below w.heap.size w w') : At u arrT ty w' B p sz L (More F w w') ∧ Only F w w' := by
  refine ⟨(h.below hb).mono (fun k hk => .inl hk) (fun k hk => ?_), Only.of_below hb⟩
  have hs := hb.size
  rcases hk with hk | ⟨h1, h2⟩
  · have := h.lt hk; omega
  · have := h.lt h.self; omega
def StepPost (P : World → List Ar → (Nat → Prop) → Prop) (E : Ending) (w : World) (L' : List Ar) (F : Nat → Prop) (e : Ending) (w' : World) : Prop := e = E ∧ P w' L' (More F w w') ∧ Only F w w'
theorem allocI_any (w : World) (B p : Nat) (sz : Int) (L : List Ar) (F : Nat → Prop) (owner label life n : Int) (share : Bool) (h : AtI w B p sz L F) (hn1 : -1000000 ≤ n) (hn2 : n ≤ 1000000) :
    Calls Try.prog 14 #[.pointer (some ⟨p, 0, none⟩), .int .i64 owner, .int .i64 label, .int .i64 life, .bool share, .int .i64 n] w
      (StepPost (fun w L F => AtI w B p sz L F) (.returned (.tuple #[.int .i64 (allocN sz L label life n), .bool (allocB sz L label life n)])) w (allocL sz L owner label life share n) F) := by
  by_cases hf : Fits sz L label life n
  · refine (allocI_yes w B p sz L F owner label life n share h hf).mono ?_
    rintro e w' ⟨rfl, h1, h2⟩
    unfold StepPost allocN allocB allocL
    rw [if_pos hf, if_pos hf]
    exact ⟨by simp [hf], h1, h2⟩
  · refine (allocI_no w B p sz L F owner label life n share h hn1 hn2 hf).mono ?_
    rintro e w' ⟨rfl, hb⟩
    unfold StepPost allocN allocB allocL
    rw [if_neg hf, if_neg hf]
    exact ⟨by simp [hf], At.same h hb⟩
theorem allocR_any (w : World) (B p : Nat) (sz : Int) (L : List Ar) (F : Nat → Prop) (owner label life n : Int) (share : Bool) (h : AtR w B p sz L F) (hn1 : -1000000 ≤ n) (hn2 : n ≤ 1000000) :
    Calls Try.prog 30 #[.pointer (some ⟨p, 0, none⟩), .int .i64 owner, .int .i64 label, .int .i64 life, .bool share, .int .i64 n] w
      (StepPost (fun w L F => AtR w B p sz L F) (.returned (.tuple #[.int .i64 (allocN sz L label life n), .bool (allocB sz L label life n)])) w (allocL sz L owner label life share n) F) := by
  by_cases hf : Fits sz L label life n
  · refine (allocR_yes w B p sz L F owner label life n share h hf).mono ?_
    rintro e w' ⟨rfl, h1, h2⟩
    unfold StepPost allocN allocB allocL
    rw [if_pos hf, if_pos hf]
    exact ⟨by simp [hf], h1, h2⟩
  · refine (allocR_no w B p sz L F owner label life n share h hn1 hn2 hf).mono ?_
    rintro e w' ⟨rfl, hb⟩
    unfold StepPost allocN allocB allocL
    rw [if_neg hf, if_neg hf]
    exact ⟨by simp [hf], At.same h hb⟩
/-- two heaps, apart from each other, with the same arrays -/
structure Two (w0 : World) (p p' : Nat) (sz : Int) (L L' : List Ar) (F G : Nat → Prop) (w : World) : Prop where
  i : AtI w w0.heap.size p sz L F
  r : AtR w w0.heap.size p' sz L' G
  apart : ∀ k, F k → ¬ G k
  below : Below w0.heap.size w0 w
section
variable {w0 w w' : World} {p p' : Nat} {sz : Int} {L L' K : List Ar} {F G : Nat → Prop}
theorem Two.first (h : Two w0 p p' sz L L' F G w) (h1 : AtI w' w0.heap.size p sz K (More F w w')) (hO : Only F w w') : Two w0 p p' sz K L' (More F w w') G w' := by
  refine ⟨h1, h.r.keep hO (fun k hg hf => h.apart k hf hg), fun k hk hg => ?_, h.below.trans (hO.below h.below.size (fun k hk => (h.i.lt hk).1))⟩
  rcases hk with hk | ⟨hk, _⟩
  · exact h.apart k hk hg
  · have := (h.r.lt hg).2; omega
theorem Two.second (h : Two w0 p p' sz L L' F G w) (h1 : AtR w' w0.heap.size p' sz K (More G w w')) (hO : Only G w w') : Two w0 p p' sz L K F (More G w w') w' := by
  refine ⟨h.i.keep hO (fun k hf hg => h.apart k hf hg), h1, fun k hf hk => ?_, h.below.trans (hO.below h.below.size (fun k hk => (h.r.lt hk).1))⟩
  rcases hk with hk | ⟨hk, _⟩
  · exact h.apart k hf hk
  · have := (h.i.lt hf).2; omega
theorem Two.keep (h : Two w0 p p' sz L L' F G w) (hb : Below w.heap.size w w') : Two w0 p p' sz L L' F G w' :=
  ⟨h.i.below hb, h.r.below hb, h.apart, h.below.trans (hb.mono h.below.size)⟩
end
theorem cells_step9 : Try.prog.cellsOf 74 = 5 := by kernel_rfl
theorem cells_int : Try.prog.cellsOf 3 = 1 := by kernel_rfl
theorem cells_bool : Try.prog.cellsOf 4 = 1 := by kernel_rfl
theorem viewed_step9 {w : World} {es : List Value} (h : Vw.Viewed Try.prog w 74 es) :
    ∃ (x1 x2 x3 x4 : Int) (b : Bool), es = [.int .i64 x1, .int .i64 x2, .int .i64 x3, .int .i64 x4, .bool b] := by
  obtain ⟨hl, hf⟩ := Vw.viewed_struct Try.underlying74 h
  rw [cells_step9] at hl
  have f0 : Vw.Viewed Try.prog w 3 ((es.drop 0).take (Try.prog.cellsOf 3)) := hf 0 _ rfl
  have f1 : Vw.Viewed Try.prog w 3 ((es.drop 1).take (Try.prog.cellsOf 3)) := hf 1 _ rfl
  have f2 : Vw.Viewed Try.prog w 3 ((es.drop 2).take (Try.prog.cellsOf 3)) := hf 2 _ rfl
  have f3 : Vw.Viewed Try.prog w 3 ((es.drop 3).take (Try.prog.cellsOf 3)) := hf 3 _ rfl
  have f4 : Vw.Viewed Try.prog w 4 ((es.drop 4).take (Try.prog.cellsOf 4)) := hf 4 _ rfl
  rw [cells_int] at f0 f1 f2 f3
  rw [cells_bool] at f4
  obtain ⟨n0, e0, _⟩ := Vw.viewed_int Try.underlying3 f0
  obtain ⟨n1, e1, _⟩ := Vw.viewed_int Try.underlying3 f1
  obtain ⟨n2, e2, _⟩ := Vw.viewed_int Try.underlying3 f2
  obtain ⟨n3, e3, _⟩ := Vw.viewed_int Try.underlying3 f3
  obtain ⟨b, e4⟩ := Vw.viewed_bool Try.underlying4 f4
  match es, hl with
  | [a, b', c', d, e], _ =>
    simp at e0 e1 e2 e3 e4
    subst e0; subst e1; subst e2; subst e3; subst e4
    exact ⟨_, _, _, _, _, rfl⟩
def BothPost (w : World) (e : Ending) (w' : World) : Prop :=
  ∃ p p' L F G, e = .returned (.tuple #[.pointer (some ⟨p, 0, none⟩), .pointer (some ⟨p', 0, none⟩)]) ∧ Two w p p' 1000 L L F G w'
set_option maxHeartbeats 2000000 in
set_option maxRecDepth 100000 in
theorem both_c (A : Option Addr) (n c : Nat) (w : World) (Q : List Value → Prop) (hQ : ∀ es, Q es → ∃ (x1 x2 x3 x4 : Int) (b : Bool), es = [.int .i64 x1, .int .i64 x2, .int .i64 x3, .int .i64 x4, .bool b]) (hr : Vw.RowsOf w A n 5 Q) :
    Calls Try.prog 35 #[.slice A n c] w (BothPost w) := by
  have n1 : ∀ (w : World) (a : Addr), (binOp .eql 23 (.pointer (some a)) (.pointer none)).run Try.prog w = .ok (.bool false) w := by
    intro w a; go_simp
  have HR := Lib.hid hr; clear hr
  have HQ := Lib.hid hQ; clear hQ
  go_enter Try.func35, Try.ntmps35
  go_wp2_with fail
  refine (newI_c w 1000 (by omega) (by omega)).mono ?_
  rintro e w1 ⟨p, F, rfl, hi, hb1⟩
  have HI : Hid (AtI w1 w.heap.size p 1000 [buf0, buf1] F) := hi
  have HB1 := Lib.hid hb1
  clear hi hb1
  go_wp2_with fail
  refine (newR_c w1 1000 (by omega) (by omega)).mono ?_
  rintro e w2 ⟨p', G, rfl, hr2, hb2⟩
  have HT : Hid (Two w p p' 1000 [buf0, buf1] [buf0, buf1] F G w2) :=
    ⟨HI.out.below hb2, by
      obtain ⟨V, R, k1, k2, k3, k4, k5, k6⟩ := hr2
      have := HB1.out.size
      exact ⟨V, R, ⟨by have := k1.ge; omega, k1.blk, by
        obtain ⟨o1, o2⟩ := k1.row
        refine ⟨o1, ?_⟩
        rcases o2 with o2 | ⟨g, cap, cur, e1, e2, e3⟩
        · exact .inl o2
        · exact .inr ⟨g, cap, cur, e1, by omega, e3⟩, fun i x hx => (k1.dat i x hx).mono this⟩, k2, k3, k4, k5, fun k hk => ⟨by have := (k6 k hk).1; omega, (k6 k hk).2⟩⟩,
      fun k hk hg => by have := (HI.out.lt hk).2; obtain ⟨_, _, _, _, _, _, _, k6⟩ := hr2; have := (k6 k hg).1; omega, HB1.out.trans (hb2.mono HB1.out.size)⟩
  clear hr2 hb2 HI HB1
  go_wp2_with fail
  go_loopw [7] (fun i wr => ∃ (k : Nat) (L : List Ar) (F G : Nat → Prop), k ≤ n ∧ i = .int .i64 k ∧ Two w p p' 1000 L L F G wr) (fun i _ => n - (intOf i).toNat)
  case atStart => exact ⟨0, _, _, _, Nat.zero_le _, rfl, HT.out⟩
  case round =>
    obtain ⟨k, L, F, G, hk, rfl, ht⟩ := hrel
    have HT2 := Lib.hid ht
    clear ht HT
    by_cases hlt : k < n
    · by_cases h20 : (k : Int) < 20
      · cases A with
        | none => have := HR.out.none_ rfl; omega
        | some ad =>
          obtain ⟨b, o, s⟩ := ad
          obtain ⟨rfl, hbw, es, hl, hv, hc⟩ := HR.out.cell b o s k rfl hlt
          obtain ⟨x1, x2, x3, x4, sh, rfl⟩ := HQ.out es hv
          have HO : Hid (Only (fun _ => False) w wr) := Only.of_below HT2.out.below
          have c0 : wr.cell? ⟨b, o + k * 5, none⟩ = some (.int .i64 x1) := by rw [HO.out.cell (p := ⟨b, o + k * 5, none⟩) hbw id]; exact hc 0 (by omega)
          have c1 : wr.cell? ⟨b, o + k * 5 + 1, none⟩ = some (.int .i64 x2) := by rw [HO.out.cell (p := ⟨b, o + k * 5 + 1, none⟩) hbw id]; exact hc 1 (by omega)
          have c2 : wr.cell? ⟨b, o + k * 5 + 2, none⟩ = some (.int .i64 x3) := by rw [HO.out.cell (p := ⟨b, o + k * 5 + 2, none⟩) hbw id]; exact hc 2 (by omega)
          have c3 : wr.cell? ⟨b, o + k * 5 + 3, none⟩ = some (.int .i64 x4) := by rw [HO.out.cell (p := ⟨b, o + k * 5 + 3, none⟩) hbw id]; exact hc 3 (by omega)
          have c4 : wr.cell? ⟨b, o + k * 5 + 4, none⟩ = some (.bool sh) := by rw [HO.out.cell (p := ⟨b, o + k * 5 + 4, none⟩) hbw id]; exact hc 4 (by omega)
          clear hc hv hl
          have K0 : Blk (wr.alloc (.cells #[.int .i64 x1, .int .i64 x2, .int .i64 x3, .int .i64 x4, .bool sh] 74)) wr.heap.size 74 #[.int .i64 x1, .int .i64 x2, .int .i64 x3, .int .i64 x4, .bool sh] := Blk.new _ _ _
          have HT3 := Lib.hid (HT2.out.keep (w' := (wr.alloc (.cells #[.int .i64 x1, .int .i64 x2, .int .i64 x3, .int .i64 x4, .bool sh] 74)).drew) (belowD ((Below.refl _ _).alloc (Nat.le_refl _) _)))
          obtain ⟨y1, hy1⟩ : ∃ y, x1 % 3 = y := ⟨_, rfl⟩
          have ly1 : 0 ≤ y1 := by omega
          have ry1 : y1 ≤ 2 := by omega
          have p1 : Hid (∀ w, Calls Try.prog 13 #[.int .i64 x1, .int .i64 3] w fun e w' => e = .returned (.int .i64 y1) ∧ w' = w) := fun w => (pickN x1 3 (by omega) (by omega) w).mono (fun _ _ ⟨h1, h2⟩ => ⟨by rw [h1, hy1], h2.symm⟩)
          obtain ⟨y2, hy2⟩ : ∃ y, x2 % 2 = y := ⟨_, rfl⟩
          have ly2 : 0 ≤ y2 := by omega
          have ry2 : y2 ≤ 1 := by omega
          have p2 : Hid (∀ w, Calls Try.prog 13 #[.int .i64 x2, .int .i64 2] w fun e w' => e = .returned (.int .i64 y2) ∧ w' = w) := fun w => (pickN x2 2 (by omega) (by omega) w).mono (fun _ _ ⟨h1, h2⟩ => ⟨by rw [h1, hy2], h2.symm⟩)
          obtain ⟨y3, hy3⟩ : ∃ y, x3 % 3 = y := ⟨_, rfl⟩
          have ly3 : 0 ≤ y3 := by omega
          have ry3 : y3 ≤ 2 := by omega
          have p3 : Hid (∀ w, Calls Try.prog 13 #[.int .i64 x3, .int .i64 3] w fun e w' => e = .returned (.int .i64 y3) ∧ w' = w) := fun w => (pickN x3 3 (by omega) (by omega) w).mono (fun _ _ ⟨h1, h2⟩ => ⟨by rw [h1, hy3], h2.symm⟩)
          obtain ⟨y4, hy4⟩ : ∃ y, x4 % 9 = y := ⟨_, rfl⟩
          have ly4 : 0 ≤ y4 := by omega
          have ry4 : y4 ≤ 8 := by omega
          have p4 : Hid (∀ w, Calls Try.prog 13 #[.int .i64 x4, .int .i64 9] w fun e w' => e = .returned (.int .i64 y4) ∧ w' = w) := fun w => (pickN x4 9 (by omega) (by omega) w).mono (fun _ _ ⟨h1, h2⟩ => ⟨by rw [h1, hy4], h2.symm⟩)
          have hwr : IntKind.i64.wrap (3 + y2) = 3 + y2 := IntWalk.i64_in _ (by omega)
          have hgF : Hid (∀ k, F k → k < wr.heap.size) := fun k hk => (HT2.out.i.lt hk).2
          have hgG : Hid (∀ k, G k → k < wr.heap.size) := fun k hk => (HT2.out.r.lt hk).2
          clear hy1 hy2 hy3 hy4
          go_wp2_with fail
          refine wp_region_still_tail 16 (by kernel_rfl) (by kernel_rfl) ?_
          simp only [List.take_succ_cons, List.take_zero, List.drop_succ_cons, List.drop_zero]
          change wpStill _ _ (World.drew _) _ _ _
          repeat (first | still_step | (refine wpStill_step (fun K hK => ?_); go_simp; (first | (with_reducible refine ⟨_, p1.out _, hK _ ?_⟩) | (with_reducible refine ⟨_, p2.out _, hK _ ?_⟩) | (with_reducible refine ⟨_, p3.out _, hK _ ?_⟩) | (with_reducible refine ⟨_, p4.out _, hK _ ?_⟩)); clear hK K))
          refine wpStill_nil ?_
          change wpList _ _ _ _ _ (World.drew _)
          go_wp2_with fail
          refine (allocI_any _ w.heap.size p 1000 L F y1 (3 + y2) y3 y4 sh HT3.out.i (by omega) (by omega)).mono ?_
          rintro e w2 ⟨rfl, hi, hO⟩
          have K2 : Blk w2 wr.heap.size 74 #[.int .i64 x1, .int .i64 x2, .int .i64 x3, .int .i64 x4, .bool sh] := K0.drew.only hO (fun hf => by have := hgF.out _ hf; omega)
          have d0 := K2.cell 0
          have d1 := K2.cell 1
          have d2 := K2.cell 2
          have d3 := K2.cell 3
          have d4 := K2.cell 4
          simp at d0 d1 d2 d3 d4
          have HT4 := Lib.hid ((HT3.out.first hi hO).keep (w' := w2.drew) (belowD (Below.refl _ _)))
          clear K0 K2 hi hO c0 c1 c2 c3 c4
          go_wp2_with fail
          refine wp_region_still_tail 16 (by kernel_rfl) (by kernel_rfl) ?_
          simp only [List.take_succ_cons, List.take_zero, List.drop_succ_cons, List.drop_zero]
          change wpStill _ _ (World.drew _) _ _ _
          repeat (first | still_step | (refine wpStill_step (fun K hK => ?_); go_simp; (first | (with_reducible refine ⟨_, p1.out _, hK _ ?_⟩) | (with_reducible refine ⟨_, p2.out _, hK _ ?_⟩) | (with_reducible refine ⟨_, p3.out _, hK _ ?_⟩) | (with_reducible refine ⟨_, p4.out _, hK _ ?_⟩)); clear hK K))
          refine wpStill_nil ?_
          change wpList _ _ _ _ _ (World.drew _)
          go_wp2_with fail
          refine (allocR_any _ w.heap.size p' 1000 L G y1 (3 + y2) y3 y4 sh HT4.out.r (by omega) (by omega)).mono ?_
          rintro e w3 ⟨rfl, hr, hO⟩
          have HT5 := Lib.hid (HT4.out.second hr hO)
          clear hr hO
          go_wp2_with fail
          go_roundw
          case rel => exact ⟨k + 1, _, _, _, by omega, by go_num, HT5.out⟩
          case measure => simp [intOf]; omega
      · go_wp2_with fail
        go_ret2
        exact ⟨_, _, _, _, _, rfl, HT2.out⟩
    · have : k = n := by omega
      subst this
      go_wp2_with fail
      go_ret2
      exact ⟨_, _, _, _, _, rfl, HT2.out⟩
end Go.Proofs.Ytjmpnkhgligdlaa
