/- Package heap: Put where it does nothing, SetBuffer, Clear. -/
import Derived.Test.YtjmpnkhgligdlaaBoth
namespace Go.Proofs.Ytjmpnkhgligdlaa
open Go.RowKit On Hv Go.Sort
theorem putI_out (w : World) (B p : Nat) (sz : Int) (L : List Ar) (F : Nat → Prop) (h : AtI w B p sz L F) (i : Nat) (a : Ar) (ref at_ v : Int) (hi : ref = i + 1) (ha : L[i]? = some a) (hd : at_ < 0 ∨ (a.data.length : Int) ≤ at_) :
    Calls Try.prog 15 #[.pointer (some ⟨p, 0, none⟩), .int .i64 ref, .int .i64 at_, .int .u8 v] w fun e w' => e = .returned (.bool false) ∧ w = w' := by
  obtain ⟨q, c, R, h1, h2, h3, h4, h5, h6, h7, h8, h9, h10, h11⟩ := h.open
  have hlen := h5.len
  obtain ⟨D, hx⟩ := map_get h3 ha
  have hiL : i < L.length := (List.getElem?_eq_some_iff.mp ha).1
  have HG : Hid (Calls Try.prog 19 #[.pointer (some ⟨p, 0, none⟩), .int .i64 ref, .int .i64 at_] w fun e w' => e = .returned (.tuple #[.int .u8 0, .bool false]) ∧ w = w') := get_out w B p sz q L.length c i R (a, D) ref at_ h1 (by omega) (by omega) (by omega) hx (by omega) hd
  clear h h1 h2 h3 h4 h5 h6 h7 h8 h9 hx hd ha hi hlen hiL
  go_enter Try.func15, Try.ntmps15
  go_wp2_with fail
  refine HG.out.mono ?_
  rintro e w' ⟨rfl, rfl⟩
  go_wp2_with fail
  go_ret
  exact ⟨rfl, rfl⟩
theorem putI_no (w : World) (B p : Nat) (sz : Int) (L : List Ar) (F : Nat → Prop) (h : AtI w B p sz L F) (ref at_ v : Int) (hr : ref < 1 ∨ (L.length : Int) < ref) :
    Calls Try.prog 15 #[.pointer (some ⟨p, 0, none⟩), .int .i64 ref, .int .i64 at_, .int .u8 v] w fun e w' => e = .returned (.bool false) ∧ w = w' := by
  obtain ⟨q, c, R, h1, _⟩ := h.open
  have HG : Hid (Calls Try.prog 19 #[.pointer (some ⟨p, 0, none⟩), .int .i64 ref, .int .i64 at_] w fun e w' => e = .returned (.tuple #[.int .u8 0, .bool false]) ∧ w = w') := get_no w B p sz q L.length c R ref at_ h1 hr
  clear h h1 hr
  go_enter Try.func15, Try.ntmps15
  go_wp2_with fail
  refine HG.out.mono ?_
  rintro e w' ⟨rfl, rfl⟩
  go_wp2_with fail
  go_ret
  exact ⟨rfl, rfl⟩
/-- an array's bytes replaced, in a heap with its list -/
theorem At.repl {u arrT ty : TypeId} {w w1 : World} {B p : Nat} {sz : Int} {L : List Ar} {F : Nat → Prop} {q c : Nat} {R : List (Ar × Value)} (h1 : arrT ≠ ty) (h2 : u ≠ arrT)
    (h : HpV u arrT ty w1 B p sz (.slice (some ⟨q, 0, none⟩) L.length c) R) (ha : Apart R) (hm : R.map Prod.fst = L) (hF : ∀ k, Foot p (.slice (some ⟨q, 0, none⟩) L.length c) R k → F k) (hFb : ∀ k, F k → B ≤ k ∧ k < w.heap.size) (hb : Below w.heap.size w w1)
    {i : Nat} {a : Ar} (hx : L[i]? = some a) {D : Value} {xs : List Int} (hD : Dw u w1 w.heap.size D xs) (hg : Hv.Good sz (L.set i (a.with' xs))) :
    At u arrT ty (w1.setCell ⟨q, i * 5 + 4, none⟩ D) B p sz (L.set i (a.with' xs)) (More F w (w1.setCell ⟨q, i * 5 + 4, none⟩ D)) ∧ Only F w (w1.setCell ⟨q, i * 5 + 4, none⟩ D) := by
  obtain ⟨D0, hx0⟩ := map_get hm hx
  have hBw : B ≤ w.heap.size := by have := hFb p (hF p (.inl rfl)); omega
  have hDk : ∀ k, dB D xs = some k → ¬ F k := fun k hk hf => by have := (hD.lt hk).1; have := (hFb k hf).2; omega
  obtain ⟨k1, k2, k3, k4⟩ := h.repl h1 h2 ha hx0 rfl (hD.mono hBw) (fun k hk hf => hDk k hk (hF k hf))
  have hO : Only F w (w1.setCell ⟨q, i * 5 + 4, none⟩ D) := ((Only.of_below hb : Only F w w1)).trans k4 (fun k _ e => by subst e; exact hF k (.inr (.inl rfl)))
  have hsz := hO.size
  refine ⟨⟨_, _, k1, k2, map_set' hm i _ D, hg, fun k hk => ?_, fun k hk => ?_⟩, hO⟩
  · have hlt := (k1.lt hk).2
    rcases k3 k hk with e | e
    · exact .inl (hF k e)
    · exact .inr ⟨(hD.lt e).1, hlt⟩
  · rcases hk with e | ⟨e1, e2⟩
    · have := hFb k e; exact ⟨this.1, by omega⟩
    · exact ⟨by omega, e2⟩
/-- bytes that can be read, wherever they lie -/
def Rd (w : World) (D : Value) (xs : List Int) : Prop := ∃ A c, D = .slice A xs.length c ∧ (A = none → c = 0) ∧ Src w A xs.length 1 (xs.map (Value.int .u8)) ∧ ∀ x ∈ xs, 0 ≤ x ∧ x ≤ 255
theorem Dw.rd {w : World} {B : Nat} {D : Value} {xs : List Int} (h : Dw 5 w B D xs) : Rd w D xs := by
  obtain ⟨A, c, h1, h2, h3⟩ := h.src; exact ⟨A, c, h1, h2, h3, h.byte⟩
theorem clone_rd (w : World) (D : Value) (xs : List Int) (h : Rd w D xs) (hn : xs.length ≤ 1000000) :
    Calls Try.prog 40 #[D] w (NewBytes w xs) := by
  obtain ⟨i0, hi0, hz0, hz1, hz2⟩ := info_parts info_u8
  obtain ⟨A, c, rfl, hc0, hs, hb⟩ := h
  have hby := Lib.hid hb
  have HC0 := Lib.hid hc0
  have q29 : ∀ (w : World) (a : Option Addr) (n c n' c' : Nat), (binOp .eql 29 (.slice a n c) (.slice none n' c')).run Try.prog w = .ok (.bool a.isNone) w := fun w a n c n' c' => Lib.run_eql_slice_nil w _ _ a n c n' c' Try.underlying29
  clear hc0 hb
  cases A with
  | none =>
    have h0 := hs.none_ rfl
    have : xs = [] := List.eq_nil_of_length_eq_zero h0
    subst this
    have h0 := HC0.out rfl
    subst h0
    go_enter Try.func40, Try.ntmps40
    go_wp2
    go_ret
    exact ⟨_, rfl, ⟨_, _, rfl⟩, Dw.nil, Below.refl _ _⟩
  | some ad =>
    have hs2 : Src (w.alloc (.cells #[] 5)) (some ad) xs.length 1 (xs.map (Value.int .u8)) := Hv.Src.below hs ((Below.refl _ _).alloc (Nat.le_refl _) _)
    have HS := Lib.hid hs2
    clear hs hs2
    have hown := World.ownsRow_made (size := 1) (e := 5) (base := w.heap.size) w #[] 0 (Nat.le_refl _) (by unfold maxLen; omega) (by simp)
    have HB : Hid (Below w.heap.size w (w.alloc (.cells #[] 5))) := (Below.refl _ _).alloc (Nat.le_refl _) _
    have HN := Lib.hid hn
    clear hn
    go_enter Try.func40, Try.ntmps40
    go_wp2_with (at_builtin; refine wpList_append_at _ rfl (.tmp 5) (.tmp 6) _ rfl w.heap.size 5 i0 _ 1 1 Try.underlying29 hi0 hz0 hz1 hz2 rfl (by omega) _ 0 [] rfl hown (some ad) _ c _ rfl HS.out nofun (by have := HN.out; unfold maxLen; omega) (by have := HN.out; omega) (by simp) ?_)
    intro A' c' w1 hown1 hg _
    try simp only [Nat.zero_add, List.nil_append] at hown1
    have HW := Lib.hid (Dw.own hown1 hby.out)
    have HB1 := Lib.hid (HB.out.grown hg (by simp) (by simp [Value.ownBlock]))
    clear hown1 hg hown
    go_wp2
    go_ret
    exact ⟨_, rfl, ⟨_, _, rfl⟩, HW.out, HB1.out⟩
theorem setbufI_yes (w : World) (B p : Nat) (sz : Int) (L : List Ar) (F : Nat → Prop) (h : AtI w B p sz L F) (i : Nat) (a : Ar) (ref : Int) (D : Value) (xs : List Int) (hi : ref = i + 1) (hi2 : i < 2) (ha : L[i]? = some a) (hD : Rd w D xs) (hl : xs.length ≤ 64) :
    Calls Try.prog 20 #[.pointer (some ⟨p, 0, none⟩), .int .i64 ref, D] w (StepPost (fun w L F => AtI w B p sz L F) (.returned (.bool true)) w (L.set i (a.with' xs)) F) := by
  have H := Lib.hid h
  have HA := Lib.hid ha
  have HD := Lib.hid hD
  obtain ⟨AD, cD, rfl, _⟩ := hD
  obtain ⟨q, c, R, h1, h2, h3, h4, h5, h6, h7, h8, h9, h10, h11⟩ := h.open
  have hlen := h5.len
  have htwo := h5.two
  have h1' : HpI w B p sz (.slice (some ⟨q, 0, none⟩) L.length c) R := h1
  have H1 := Lib.hid h1'; have H2 := Lib.hid h2; have H3 := Lib.hid h3; have H6 := Lib.hid h6; have H7 := Lib.hid h7
  obtain ⟨D0, hx0⟩ := map_get h3 ha
  have HX := Lib.hid hx0
  have HG : Hid (Hv.Good sz (L.set i (a.with' xs))) := h5.set ha (.inl hi2) hl rfl
  have hr1 : (ref == 1) = true ∨ (ref != 1) = true ∧ (ref != 2) = false := by
    match i, hi2 with
    | 0, _ => left; subst hi; rfl
    | 1, _ => right; subst hi; exact ⟨rfl, rfl⟩
  have HI : Hid (ref.toNat - 1 = i) := by unfold Hid; omega
  have hrr1 : 1 ≤ ref := by omega
  have hrr2 : ref ≤ (L.length : Int) := by omega
  have hcell := h1.cell rfl hx0 (show 4 < 5 by omega)
  have hfz : w.frozen? ⟨q, i * 5 + 4, none⟩ = false := by
    have hr0 := h1.row
    rw [h4] at hr0
    exact hr0.frozenAt (i * 5 + 4)
  simp [cells5] at hcell
  have hdl : ((xs.length : Int)) ≤ 64 := by omega
  have hn : (L.length : Int) ≤ 1000000 := by omega
  clear h h1 h1' h2 h3 h4 h5 h6 h7 h8 h9 ha hx0 hl
  have key : Hid (∀ w1, Below w.heap.size w w1 → ∀ D', Dw 5 w1 w.heap.size D' xs → AtI (w1.setCell ⟨q, i * 5 + 4, none⟩ D') B p sz (L.set i (a.with' xs)) (More F w (w1.setCell ⟨q, i * 5 + 4, none⟩ D')) ∧ Only F w (w1.setCell ⟨q, i * 5 + 4, none⟩ D')) :=
    fun w1 hb D' hD' => At.repl (by decide) (by decide) (H1.out.below hb) H2.out H3.out H6.out H7.out hb HA.out hD' HG.out
  match i, hi2 with
  | 0, _ =>
    subst hi
    go_enter Try.func20, Try.ntmps20
    go_wp2_with fail
    refine (at_yes w B p sz q L.length c 0 R _ H1.out (by omega) (by omega) hn (by omega)).mono ?_
    rintro e w' ⟨rfl, rfl⟩
    go_wp2_with fail
    refine (clone_rd w _ xs HD.out (by omega)).mono ?_
    rintro e w1 ⟨D1, rfl, ⟨A1, k1, rfl⟩, hd1, hb1⟩
    have HK := Lib.hid (key.out w1 hb1 _ hd1)
    have c4 : w1.cell? ⟨q, 0 * 5 + 4, none⟩ = some D0 := (hb1.cell (p := ⟨q, 0 * 5 + 4, none⟩) h10).trans (by simpa using hcell)
    have f4 : w1.frozen? ⟨q, 0 * 5 + 4, none⟩ = false := (hb1.frozen (p := ⟨q, 0 * 5 + 4, none⟩) h10).trans (by simpa using hfz)
    simp at c4 f4
    clear hd1 hb1 hcell hfz
    go_wp2_with fail
    go_ret
    exact ⟨rfl, by simpa using HK.out⟩
  | 1, _ =>
    subst hi
    go_enter Try.func20, Try.ntmps20
    go_wp2_with fail
    refine (at_yes w B p sz q L.length c 1 R _ H1.out (by omega) (by omega) hn (by omega)).mono ?_
    rintro e w' ⟨rfl, rfl⟩
    go_wp2_with fail
    refine (clone_rd w _ xs HD.out (by omega)).mono ?_
    rintro e w1 ⟨D1, rfl, ⟨A1, k1, rfl⟩, hd1, hb1⟩
    have HK := Lib.hid (key.out w1 hb1 _ hd1)
    have c4 : w1.cell? ⟨q, 1 * 5 + 4, none⟩ = some D0 := (hb1.cell (p := ⟨q, 1 * 5 + 4, none⟩) h10).trans (by simpa using hcell)
    have f4 : w1.frozen? ⟨q, 1 * 5 + 4, none⟩ = false := (hb1.frozen (p := ⟨q, 1 * 5 + 4, none⟩) h10).trans (by simpa using hfz)
    simp at c4 f4
    clear hd1 hb1 hcell hfz
    go_wp2_with fail
    go_ret
    exact ⟨rfl, by simpa using HK.out⟩
theorem setbufI_no (w : World) (P : Value) (ref : Int) (A : Option Addr) (n c : Nat) (h : (ref ≠ 1 ∧ ref ≠ 2) ∨ 64 < n) (hn : n ≤ 1000000) :
    Calls Try.prog 20 #[P, .int .i64 ref, .slice A n c] w fun e w' => e = .returned (.bool false) ∧ w = w' := by
  by_cases h1 : ref = 1
  · have h64 : (64 : Int) < (n : Int) := by omega
    subst h1
    clear h
    go_enter Try.func20, Try.ntmps20
    go_wp2
    go_ret
    exact ⟨rfl, rfl⟩
  · have e1 : (ref != 1) = true := bne_iff_ne.mpr h1
    by_cases h2 : ref = 2
    · have h64 : (64 : Int) < (n : Int) := by omega
      subst h2
      clear h e1 h1
      go_enter Try.func20, Try.ntmps20
      go_wp2
      go_ret
      exact ⟨rfl, rfl⟩
    · have e2 : (ref != 2) = true := bne_iff_ne.mpr h2
      clear h h1 h2
      go_enter Try.func20, Try.ntmps20
      go_wp2
      go_ret
      exact ⟨rfl, rfl⟩
end Go.Proofs.Ytjmpnkhgligdlaa
