/- Package wall, and the document's: May, Check, Range. -/
import Derived.Test.YtjmpnkhgligdlaaHeapRB
namespace Go.Proofs.Ytjmpnkhgligdlaa
open Go.RowKit On Hv Go.Sort
theorem arrayI_yes (w : World) (B p : Nat) (sz : Int) (L : List Ar) (F : Nat → Prop) (h : AtI w B p sz L F) (i : Nat) (a : Ar) (ref : Int) (hi : ref = i + 1) (ha : L[i]? = some a) :
    Calls Try.prog 16 #[.pointer (some ⟨p, 0, none⟩), .int .i64 ref] w (ArrPost w a) := by
  obtain ⟨q, c, R, h1, h2, h3, h4, h5, h6, h7, h8, h9, h10, h11⟩ := h.open
  have hlen := h5.len
  obtain ⟨D, hx⟩ := map_get h3 ha
  have hiL : i < L.length := (List.getElem?_eq_some_iff.mp ha).1
  have := h5.data a (List.mem_of_getElem? ha)
  exact array_yes w B p sz q L.length c i R (a, D) ref h1 (by omega) (by omega) (by omega) hx (by omega) (by show a.data.length ≤ 1000000; omega)
theorem arrayI_no (w : World) (B p : Nat) (sz : Int) (L : List Ar) (F : Nat → Prop) (h : AtI w B p sz L F) (ref : Int) (hr : ref < 1 ∨ (L.length : Int) < ref) :
    Calls Try.prog 16 #[.pointer (some ⟨p, 0, none⟩), .int .i64 ref] w fun e w' => e = .returned (.tuple #[.agg #[.int .i64 0, .int .i64 0, .int .i64 0, .bool false, .slice none 0 0], .bool false]) ∧ Below w.heap.size w w' := by
  obtain ⟨q, c, R, h1, _⟩ := h.open
  exact array_no w B p sz q L.length c R ref h1 hr
def mayB (owner applet : Int) (share : Bool) : Bool := owner == -1 || owner == applet || share
theorem may_c (owner label life applet : Int) (share : Bool) (A : Option Addr) (n c : Nat) (w : World) :
    Calls Try.prog 34 #[.agg #[.int .i64 owner, .int .i64 label, .int .i64 life, .bool share, .slice A n c], .int .i64 applet] w fun e w' => e = .returned (.bool (mayB owner applet share)) ∧ Below w.heap.size w w' := by
  have hB : Hid (Below w.heap.size w (w.alloc (.cells #[.int .i64 owner, .int .i64 label, .int .i64 life, .bool share, .slice A n c] 37))) := (Below.refl _ _).alloc (Nat.le_refl _) _
  by_cases h1 : owner = -1
  · subst h1
    go_enter Try.func34, Try.ntmps34
    go_wp2
    go_ret
    exact ⟨rfl, hB.out⟩
  · have e1 : (owner == -1) = false := beq_eq_false_iff_ne.mpr h1
    by_cases h2 : owner = applet
    · subst h2
      have HM : Hid (mayB owner owner share = true) := by unfold Hid mayB; simp
      rw [HM.out]
      go_enter Try.func34, Try.ntmps34
      go_wp2
      go_ret
      exact ⟨rfl, hB.out⟩
    · have e2 : (owner == applet) = false := beq_eq_false_iff_ne.mpr h2
      have HM : Hid (mayB owner applet share = share) := by unfold Hid mayB; rw [e1, e2]; simp
      rw [HM.out]
      clear h1 h2
      go_enter Try.func34, Try.ntmps34
      go_wp2
      go_ret
      exact ⟨rfl, hB.out⟩
theorem mayR_c (owner label life applet : Int) (share : Bool) (A : Option Addr) (n c : Nat) (w : World) :
    Calls Try.prog 38 #[.agg #[.int .i64 owner, .int .i64 label, .int .i64 life, .bool share, .slice A n c], .int .i64 applet] w fun e w' => e = .returned (.bool (mayB owner applet share)) ∧ Below w.heap.size w w' := by
  have hB : Hid (Below w.heap.size w (w.alloc (.cells #[.int .i64 owner, .int .i64 label, .int .i64 life, .bool share, .slice A n c] 37))) := (Below.refl _ _).alloc (Nat.le_refl _) _
  by_cases h1 : owner = -1
  · subst h1
    go_enter Try.func38, Try.ntmps38
    go_wp2
    go_ret
    exact ⟨rfl, hB.out⟩
  · have e1 : (owner == -1) = false := beq_eq_false_iff_ne.mpr h1
    by_cases h2 : owner = applet
    · subst h2
      have HM : Hid (mayB owner owner share = true) := by unfold Hid mayB; simp
      rw [HM.out]
      go_enter Try.func38, Try.ntmps38
      go_wp2
      go_ret
      exact ⟨rfl, hB.out⟩
    · have e2 : (owner == applet) = false := beq_eq_false_iff_ne.mpr h2
      have HM : Hid (mayB owner applet share = share) := by unfold Hid mayB; rw [e1, e2]; simp
      rw [HM.out]
      clear h1 h2
      go_enter Try.func38, Try.ntmps38
      go_wp2
      go_ret
      exact ⟨rfl, hB.out⟩
def checkS (L : List Ar) (ref applet : Int) : Int :=
  if ref < 1 ∨ (L.length : Int) < ref then 28417 else match L[(ref - 1).toNat]? with
    | none => 28417
    | some a => if mayB a.owner applet a.share = true then 36864 else 28420
def lenS (L : List Ar) (ref : Int) : Int := match L[(ref - 1).toNat]? with
  | none => 0
  | some a => a.data.length
def rangeS (L : List Ar) (ref at_ n applet : Int) : Int :=
  if checkS L ref applet = 36864 then (if at_ < 0 ∨ n < 0 ∨ lenS L ref < at_ ∨ lenS L ref - at_ < n then 28418 else 36864) else checkS L ref applet
theorem ref_cases (L : List Ar) (ref : Int) : (ref < 1 ∨ (L.length : Int) < ref) ∨ ∃ (i : Nat) (a : Ar), ref = i + 1 ∧ L[i]? = some a := by
  by_cases h : ref < 1 ∨ (L.length : Int) < ref
  · exact .inl h
  · exact .inr ⟨(ref - 1).toNat, _, by omega, List.getElem?_eq_getElem (by omega)⟩
theorem checkS_no {L : List Ar} {ref : Int} (applet : Int) (h : ref < 1 ∨ (L.length : Int) < ref) : checkS L ref applet = 28417 := if_pos h
theorem checkS_yes {L : List Ar} {i : Nat} {a : Ar} (applet : Int) (ha : L[i]? = some a) : checkS L ((i : Int) + 1) applet = if mayB a.owner applet a.share = true then 36864 else 28420 := by
  have hiL : i < L.length := (List.getElem?_eq_some_iff.mp ha).1
  unfold checkS
  rw [if_neg (by omega), show ((i : Int) + 1 - 1).toNat = i by omega, ha]
theorem lenS_yes {L : List Ar} {i : Nat} {a : Ar} (ha : L[i]? = some a) : lenS L ((i : Int) + 1) = a.data.length := by
  unfold lenS; rw [show ((i : Int) + 1 - 1).toNat = i by omega, ha]
set_option maxHeartbeats 1000000 in
theorem check_c (w : World) (B p : Nat) (sz : Int) (L : List Ar) (F : Nat → Prop) (ref applet : Int) (h : AtI w B p sz L F) :
    Calls Try.prog 32 #[.pointer (some ⟨p, 0, none⟩), .int .i64 ref, .int .i64 applet] w fun e w' => e = .returned (.int .i64 (checkS L ref applet)) ∧ Below w.heap.size w w' := by
  have H := Lib.hid h
  clear h
  rcases ref_cases L ref with hr | ⟨i, a, hi, ha⟩
  · rw [checkS_no applet hr]
    have HR := Lib.hid hr
    clear hr
    go_enter Try.func32, Try.ntmps32
    go_wp2_with fail
    refine (arrayI_no _ B p sz L F H.out ref HR.out).mono ?_
    rintro e w1 ⟨rfl, hb1⟩
    have HB1 := Lib.hid hb1
    clear hb1
    go_wp2_with fail
    go_ret
    exact ⟨rfl, HB1.out.alloc HB1.out.size _⟩
  · subst hi
    rw [checkS_yes applet ha]
    have HA := Lib.hid ha
    clear ha
    cases hm : mayB a.owner applet a.share
    · rw [if_neg (by simp)]
      have HM := Lib.hid hm
      clear hm
      go_enter Try.func32, Try.ntmps32
      go_wp2_with fail
      refine (arrayI_yes _ B p sz L F H.out i a _ rfl HA.out).mono ?_
      rintro e w1 ⟨D, rfl, hd, hb1⟩
      obtain ⟨A, cD, rfl, _⟩ := hd.slice
      have HB1 := Lib.hid hb1
      clear hb1 hd
      go_wp2_with fail
      refine (may_c _ _ _ applet _ _ _ _ _).mono ?_
      rintro e w2 ⟨rfl, hb2⟩
      rw [HM.out]
      have HB2 : Hid (Below w.heap.size w w2) := (HB1.out.alloc HB1.out.size _).trans (hb2.mono (by have := HB1.out.size; simp; omega))
      clear hb2
      go_wp2_with fail
      go_ret
      exact ⟨rfl, HB2.out⟩
    · rw [if_pos rfl]
      have HM := Lib.hid hm
      clear hm
      go_enter Try.func32, Try.ntmps32
      go_wp2_with fail
      refine (arrayI_yes _ B p sz L F H.out i a _ rfl HA.out).mono ?_
      rintro e w1 ⟨D, rfl, hd, hb1⟩
      obtain ⟨A, cD, rfl, _⟩ := hd.slice
      have HB1 := Lib.hid hb1
      clear hb1 hd
      go_wp2_with fail
      refine (may_c _ _ _ applet _ _ _ _ _).mono ?_
      rintro e w2 ⟨rfl, hb2⟩
      rw [HM.out]
      have HB2 : Hid (Below w.heap.size w w2) := (HB1.out.alloc HB1.out.size _).trans (hb2.mono (by have := HB1.out.size; simp; omega))
      clear hb2
      go_wp2_with fail
      go_ret
      exact ⟨rfl, HB2.out⟩
set_option maxHeartbeats 1000000 in
theorem checkR_c (w : World) (B p : Nat) (sz : Int) (L : List Ar) (F : Nat → Prop) (ref applet : Int) (h : AtR w B p sz L F) :
    Calls Try.prog 36 #[.pointer (some ⟨p, 0, none⟩), .int .i64 ref, .int .i64 applet] w fun e w' => e = .returned (.int .i64 (checkS L ref applet)) ∧ Below w.heap.size w w' := by
  have H := Lib.hid h
  clear h
  rcases ref_cases L ref with hr | ⟨i, a, hi, ha⟩
  · rw [checkS_no applet hr]
    have HR := Lib.hid hr
    clear hr
    go_enter Try.func36, Try.ntmps36
    go_wp2_with fail
    refine (atR_no _ B p sz L F H.out ref HR.out).mono ?_
    rintro e w1 ⟨rfl, hb1⟩
    have HB1 := Lib.hid hb1
    clear hb1
    go_wp2_with fail
    go_ret
    exact ⟨rfl, HB1.out.alloc HB1.out.size _⟩
  · subst hi
    rw [checkS_yes applet ha]
    have HA := Lib.hid ha
    clear ha
    cases hm : mayB a.owner applet a.share
    · rw [if_neg (by simp)]
      have HM := Lib.hid hm
      clear hm
      go_enter Try.func36, Try.ntmps36
      go_wp2_with fail
      refine (atR_yes _ B p sz L F H.out i a _ rfl HA.out).mono ?_
      rintro e w1 ⟨D, rfl, hd, hb1⟩
      obtain ⟨A, cD, rfl, _⟩ := hd.slice
      have HB1 := Lib.hid hb1
      clear hb1 hd
      go_wp2_with fail
      refine (mayR_c _ _ _ applet _ _ _ _ _).mono ?_
      rintro e w2 ⟨rfl, hb2⟩
      rw [HM.out]
      have HB2 : Hid (Below w.heap.size w w2) := (HB1.out.alloc HB1.out.size _).trans (hb2.mono (by have := HB1.out.size; simp; omega))
      clear hb2
      go_wp2_with fail
      go_ret
      exact ⟨rfl, HB2.out⟩
    · rw [if_pos rfl]
      have HM := Lib.hid hm
      clear hm
      go_enter Try.func36, Try.ntmps36
      go_wp2_with fail
      refine (atR_yes _ B p sz L F H.out i a _ rfl HA.out).mono ?_
      rintro e w1 ⟨D, rfl, hd, hb1⟩
      obtain ⟨A, cD, rfl, _⟩ := hd.slice
      have HB1 := Lib.hid hb1
      clear hb1 hd
      go_wp2_with fail
      refine (mayR_c _ _ _ applet _ _ _ _ _).mono ?_
      rintro e w2 ⟨rfl, hb2⟩
      rw [HM.out]
      have HB2 : Hid (Below w.heap.size w w2) := (HB1.out.alloc HB1.out.size _).trans (hb2.mono (by have := HB1.out.size; simp; omega))
      clear hb2
      go_wp2_with fail
      go_ret
      exact ⟨rfl, HB2.out⟩
set_option maxHeartbeats 2000000 in
theorem range_c (w : World) (B p : Nat) (sz : Int) (L : List Ar) (F : Nat → Prop) (ref at_ n applet : Int) (h : AtI w B p sz L F) :
    Calls Try.prog 33 #[.pointer (some ⟨p, 0, none⟩), .int .i64 ref, .int .i64 at_, .int .i64 n, .int .i64 applet] w fun e w' => e = .returned (.int .i64 (rangeS L ref at_ n applet)) ∧ Below w.heap.size w w' := by
  have H := Lib.hid h
  unfold rangeS
  by_cases hc : checkS L ref applet = 36864
  · rw [if_pos hc]
    rcases ref_cases L ref with hr | ⟨i, a, hi, ha⟩
    · rw [checkS_no applet hr] at hc; cases hc
    · subst hi
      rw [lenS_yes ha]
      have hda : a.data.length ≤ 64 := h.good.data a (List.mem_of_getElem? ha)
      have HC := Lib.hid hc
      have HA := Lib.hid ha
      clear hc ha h
      by_cases t0 : at_ < 0
      · rw [if_pos (by omega)]
        go_enter Try.func33, Try.ntmps33
        go_wp2_with fail
        refine (check_c _ B p sz L F _ applet H.out).mono ?_
        rintro e w1 ⟨rfl, hb1⟩
        rw [HC.out]
        have HB1 := Lib.hid hb1
        clear hb1
        go_wp2_with fail
        refine (arrayI_yes _ B p sz L F (H.out.below HB1.out) i a _ rfl HA.out).mono ?_
        rintro e w2 ⟨D, rfl, hd, hb2⟩
        obtain ⟨A, cD, rfl, _⟩ := hd.slice
        have HB2 : Hid (Below w.heap.size w w2) := HB1.out.trans (hb2.mono HB1.out.size)
        clear hb2 hd
        go_wp2_with fail
        go_ret
        exact ⟨rfl, HB2.out.alloc HB2.out.size _⟩
      by_cases t1 : n < 0
      · rw [if_pos (by omega)]
        go_enter Try.func33, Try.ntmps33
        go_wp2_with fail
        refine (check_c _ B p sz L F _ applet H.out).mono ?_
        rintro e w1 ⟨rfl, hb1⟩
        rw [HC.out]
        have HB1 := Lib.hid hb1
        clear hb1
        go_wp2_with fail
        refine (arrayI_yes _ B p sz L F (H.out.below HB1.out) i a _ rfl HA.out).mono ?_
        rintro e w2 ⟨D, rfl, hd, hb2⟩
        obtain ⟨A, cD, rfl, _⟩ := hd.slice
        have HB2 : Hid (Below w.heap.size w w2) := HB1.out.trans (hb2.mono HB1.out.size)
        clear hb2 hd
        go_wp2_with fail
        go_ret
        exact ⟨rfl, HB2.out.alloc HB2.out.size _⟩
      by_cases t2 : (a.data.length : Int) < at_
      · rw [if_pos (by omega)]
        go_enter Try.func33, Try.ntmps33
        go_wp2_with fail
        refine (check_c _ B p sz L F _ applet H.out).mono ?_
        rintro e w1 ⟨rfl, hb1⟩
        rw [HC.out]
        have HB1 := Lib.hid hb1
        clear hb1
        go_wp2_with fail
        refine (arrayI_yes _ B p sz L F (H.out.below HB1.out) i a _ rfl HA.out).mono ?_
        rintro e w2 ⟨D, rfl, hd, hb2⟩
        obtain ⟨A, cD, rfl, _⟩ := hd.slice
        have HB2 : Hid (Below w.heap.size w w2) := HB1.out.trans (hb2.mono HB1.out.size)
        clear hb2 hd
        go_wp2_with fail
        go_ret
        exact ⟨rfl, HB2.out.alloc HB2.out.size _⟩
      by_cases t3 : (a.data.length : Int) - at_ < n
      · rw [if_pos (by omega)]
        go_enter Try.func33, Try.ntmps33
        go_wp2_with fail
        refine (check_c _ B p sz L F _ applet H.out).mono ?_
        rintro e w1 ⟨rfl, hb1⟩
        rw [HC.out]
        have HB1 := Lib.hid hb1
        clear hb1
        go_wp2_with fail
        refine (arrayI_yes _ B p sz L F (H.out.below HB1.out) i a _ rfl HA.out).mono ?_
        rintro e w2 ⟨D, rfl, hd, hb2⟩
        obtain ⟨A, cD, rfl, _⟩ := hd.slice
        have HB2 : Hid (Below w.heap.size w w2) := HB1.out.trans (hb2.mono HB1.out.size)
        clear hb2 hd
        go_wp2_with fail
        go_ret
        exact ⟨rfl, HB2.out.alloc HB2.out.size _⟩
      · rw [if_neg (by omega)]
        go_enter Try.func33, Try.ntmps33
        go_wp2_with fail
        refine (check_c _ B p sz L F _ applet H.out).mono ?_
        rintro e w1 ⟨rfl, hb1⟩
        rw [HC.out]
        have HB1 := Lib.hid hb1
        clear hb1
        go_wp2_with fail
        refine (arrayI_yes _ B p sz L F (H.out.below HB1.out) i a _ rfl HA.out).mono ?_
        rintro e w2 ⟨D, rfl, hd, hb2⟩
        obtain ⟨A, cD, rfl, _⟩ := hd.slice
        have HB2 : Hid (Below w.heap.size w w2) := HB1.out.trans (hb2.mono HB1.out.size)
        clear hb2 hd
        go_wp2_with fail
        go_ret
        exact ⟨rfl, HB2.out.alloc HB2.out.size _⟩
  · rw [if_neg hc]
    have hne : (checkS L ref applet != 36864) = true := bne_iff_ne.mpr hc
    clear hc h
    go_enter Try.func33, Try.ntmps33
    go_wp2_with fail
    refine (check_c _ B p sz L F ref applet H.out).mono ?_
    rintro e w1 ⟨rfl, hb1⟩
    have HB1 := Lib.hid hb1
    clear hb1
    go_wp2_with fail
    go_ret
    exact ⟨rfl, HB1.out⟩
set_option maxHeartbeats 2000000 in
theorem rangeR_c (w : World) (B p : Nat) (sz : Int) (L : List Ar) (F : Nat → Prop) (ref at_ n applet : Int) (h : AtR w B p sz L F) :
    Calls Try.prog 37 #[.pointer (some ⟨p, 0, none⟩), .int .i64 ref, .int .i64 at_, .int .i64 n, .int .i64 applet] w fun e w' => e = .returned (.int .i64 (rangeS L ref at_ n applet)) ∧ Below w.heap.size w w' := by
  have H := Lib.hid h
  unfold rangeS
  by_cases hc : checkS L ref applet = 36864
  · rw [if_pos hc]
    rcases ref_cases L ref with hr | ⟨i, a, hi, ha⟩
    · rw [checkS_no applet hr] at hc; cases hc
    · subst hi
      rw [lenS_yes ha]
      have hda : a.data.length ≤ 64 := h.good.data a (List.mem_of_getElem? ha)
      have HC := Lib.hid hc
      have HA := Lib.hid ha
      clear hc ha h
      by_cases t0 : at_ < 0
      · rw [if_pos (by omega)]
        go_enter Try.func37, Try.ntmps37
        go_wp2_with fail
        refine (checkR_c _ B p sz L F _ applet H.out).mono ?_
        rintro e w1 ⟨rfl, hb1⟩
        rw [HC.out]
        have HB1 := Lib.hid hb1
        clear hb1
        go_wp2_with fail
        refine (atR_yes _ B p sz L F (H.out.below HB1.out) i a _ rfl HA.out).mono ?_
        rintro e w2 ⟨D, rfl, hd, hb2⟩
        obtain ⟨A, cD, rfl, _⟩ := hd.slice
        have HB2 : Hid (Below w.heap.size w w2) := HB1.out.trans (hb2.mono HB1.out.size)
        clear hb2 hd
        go_wp2_with fail
        go_ret
        exact ⟨rfl, HB2.out.alloc HB2.out.size _⟩
      by_cases t1 : n < 0
      · rw [if_pos (by omega)]
        go_enter Try.func37, Try.ntmps37
        go_wp2_with fail
        refine (checkR_c _ B p sz L F _ applet H.out).mono ?_
        rintro e w1 ⟨rfl, hb1⟩
        rw [HC.out]
        have HB1 := Lib.hid hb1
        clear hb1
        go_wp2_with fail
        refine (atR_yes _ B p sz L F (H.out.below HB1.out) i a _ rfl HA.out).mono ?_
        rintro e w2 ⟨D, rfl, hd, hb2⟩
        obtain ⟨A, cD, rfl, _⟩ := hd.slice
        have HB2 : Hid (Below w.heap.size w w2) := HB1.out.trans (hb2.mono HB1.out.size)
        clear hb2 hd
        go_wp2_with fail
        go_ret
        exact ⟨rfl, HB2.out.alloc HB2.out.size _⟩
      by_cases t2 : (a.data.length : Int) < at_
      · rw [if_pos (by omega)]
        go_enter Try.func37, Try.ntmps37
        go_wp2_with fail
        refine (checkR_c _ B p sz L F _ applet H.out).mono ?_
        rintro e w1 ⟨rfl, hb1⟩
        rw [HC.out]
        have HB1 := Lib.hid hb1
        clear hb1
        go_wp2_with fail
        refine (atR_yes _ B p sz L F (H.out.below HB1.out) i a _ rfl HA.out).mono ?_
        rintro e w2 ⟨D, rfl, hd, hb2⟩
        obtain ⟨A, cD, rfl, _⟩ := hd.slice
        have HB2 : Hid (Below w.heap.size w w2) := HB1.out.trans (hb2.mono HB1.out.size)
        clear hb2 hd
        go_wp2_with fail
        go_ret
        exact ⟨rfl, HB2.out.alloc HB2.out.size _⟩
      by_cases t3 : (a.data.length : Int) - at_ < n
      · rw [if_pos (by omega)]
        go_enter Try.func37, Try.ntmps37
        go_wp2_with fail
        refine (checkR_c _ B p sz L F _ applet H.out).mono ?_
        rintro e w1 ⟨rfl, hb1⟩
        rw [HC.out]
        have HB1 := Lib.hid hb1
        clear hb1
        go_wp2_with fail
        refine (atR_yes _ B p sz L F (H.out.below HB1.out) i a _ rfl HA.out).mono ?_
        rintro e w2 ⟨D, rfl, hd, hb2⟩
        obtain ⟨A, cD, rfl, _⟩ := hd.slice
        have HB2 : Hid (Below w.heap.size w w2) := HB1.out.trans (hb2.mono HB1.out.size)
        clear hb2 hd
        go_wp2_with fail
        go_ret
        exact ⟨rfl, HB2.out.alloc HB2.out.size _⟩
      · rw [if_neg (by omega)]
        go_enter Try.func37, Try.ntmps37
        go_wp2_with fail
        refine (checkR_c _ B p sz L F _ applet H.out).mono ?_
        rintro e w1 ⟨rfl, hb1⟩
        rw [HC.out]
        have HB1 := Lib.hid hb1
        clear hb1
        go_wp2_with fail
        refine (atR_yes _ B p sz L F (H.out.below HB1.out) i a _ rfl HA.out).mono ?_
        rintro e w2 ⟨D, rfl, hd, hb2⟩
        obtain ⟨A, cD, rfl, _⟩ := hd.slice
        have HB2 : Hid (Below w.heap.size w w2) := HB1.out.trans (hb2.mono HB1.out.size)
        clear hb2 hd
        go_wp2_with fail
        go_ret
        exact ⟨rfl, HB2.out.alloc HB2.out.size _⟩
  · rw [if_neg hc]
    have hne : (checkS L ref applet != 36864) = true := bne_iff_ne.mpr hc
    clear hc h
    go_enter Try.func37, Try.ntmps37
    go_wp2_with fail
    refine (checkR_c _ B p sz L F ref applet H.out).mono ?_
    rintro e w1 ⟨rfl, hb1⟩
    have HB1 := Lib.hid hb1
    clear hb1
    go_wp2_with fail
    go_ret
    exact ⟨rfl, HB1.out⟩
end Go.Proofs.Ytjmpnkhgligdlaa
