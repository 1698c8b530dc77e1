/- ref14.Decode of any halfwords; ThumbDecodes. -/
import Derived.Test.YtpcjkllhieiiiaaTd9
import Derived.Test.YtpcjkllhieiiiaaTd2
import Derived.Test.YtpcjkllhieiiiaaThS
import Derived.Test.YtpcjkllhieiiiaaView
import Derived.Laws.AppendOwnNone
import Derived.WalkSmall
import Derived.OwnWalk
import Derived.Deep.DeepCutAuto
import Derived.Deep.CutBlock
import Derived.BigGuardPart
namespace Go.Proofs.Ytpcjkllhieiiiaa
open Go.RowKit On Th
theorem cells_u16 : Try.prog.cellsOf 37 = 1 := by kernel_rfl
theorem bytes_u16 : Try.prog.bytesOf 37 = 2 := by kernel_rfl
theorem info_u16 : (Try.prog.info? 37).map (fun i => (i.zero, i.size, i.bytes)) = some (some (.int .u16 0), 1, 2) := by kernel_rfl
theorem info_parts2 {t : TypeId} {z : Value} {s b : Nat} (h : (Try.prog.info? t).map (fun i => (i.zero, i.size, i.bytes)) = some (some z, s, b)) : ∃ i, Try.prog.info? t = some i ∧ i.zero = some z ∧ i.size = s ∧ i.bytes = b := by
  cases hi : Try.prog.info? t with
  | none => rw [hi] at h; simp at h
  | some i => rw [hi] at h; simp at h; exact ⟨i, rfl, h.1, h.2.1, h.2.2⟩
theorem hw_nil (w : World) : Hw w (.slice none 0 0) [] := ⟨none, 0, rfl, fun k x h => by simp at h⟩
theorem hw_one (w : World) (x : Int) (h0 : 0 ≤ x) (h1 : x < 65536) : Hw (w.alloc (.cells #[.int .u16 x] 37)) (.slice (some ⟨w.heap.size, 0, none⟩) 1 1) [x] :=
  ⟨_, 1, rfl, fun k y h => by
    cases k with
    | zero => simp at h; subst h; exact ⟨h0, h1, _, _, rfl, (Blk.new w 37 #[.int .u16 x]).cell 0⟩
    | succ k => simp at h⟩
theorem hw_two (w : World) (x y : Int) (h0 : 0 ≤ x) (h1 : x < 65536) (h2 : 0 ≤ y) (h3 : y < 65536) : Hw (w.alloc (.cells #[.int .u16 x, .int .u16 y] 37)) (.slice (some ⟨w.heap.size, 0, none⟩) 2 2) [x, y] :=
  ⟨_, 2, rfl, fun k v h => by
    match k with
    | 0 => simp at h; subst h; exact ⟨h0, h1, _, _, rfl, (Blk.new w 37 #[.int .u16 x, .int .u16 y]).cell 0⟩
    | 1 => simp at h; subst h; exact ⟨h2, h3, _, _, rfl, (Blk.new w 37 #[.int .u16 x, .int .u16 y]).cell 1⟩
    | k + 2 => simp at h⟩
/-- halfwords that came in -/
def HalfsIn (w : World) (v : Value) (xs : List Int) : Prop :=
  (v = .slice none 0 0 ∧ xs = []) ∨ ∃ a c, v = .slice (some a) xs.length c ∧ ∀ j x, xs[j]? = some x → w.cell? (a.add j) = some (.int .u16 x)
theorem HalfsIn.below {w w' : World} {v : Value} {xs : List Int} (h : HalfsIn w v xs) (hb : Below w.heap.size w w') : HalfsIn w' v xs := by
  rcases h with h | ⟨a, c, h1, h2⟩
  · exact .inl h
  · exact .inr ⟨a, c, h1, fun j x hx => by rw [hb.cell (block_lt_of_cell (h2 j x hx))]; exact h2 j x hx⟩
theorem arg_halfs {w : World} {v : Value} (u : Vw.Arg Try.prog w 26 v) : ∃ xs : List Int, HalfsIn w v xs ∧ xs.length * 2 ≤ 140737488351232 ∧ ∀ x ∈ xs, 0 ≤ x ∧ x < 65536 := by
  rcases Vw.Arg.slice Try.underlying26 u with rfl | ⟨a, n, c, rfl, h1, h2, h3, h4⟩
  · exact ⟨[], .inl ⟨rfl, rfl⟩, by simp, by simp⟩
  · obtain ⟨xs, g1, g2, g3, g4⟩ := Vw.viewed_ints Try.underlying37 cells_u16 (cap := n) (fun i hi => h4 i (by omega))
    rw [bytes_u16] at h3
    unfold reachBytes at h3
    subst g1
    refine ⟨xs, .inr ⟨a, c, rfl, fun j x hx => ?_⟩, by omega, fun x hx => ?_⟩
    · have hj : j < xs.length := (List.getElem?_eq_some_iff.mp hx).1
      have hs := g3 (by omega)
      obtain ⟨b, o, s⟩ := a
      dsimp only at hs
      subst hs
      have := g4 j hj
      rw [Vw.add_none, this, List.getD_eq_getElem?_getD, hx]
      rfl
    · have := g2 x hx
      simp [Lit.wf, IntKind.min, IntKind.max, IntKind.signed, IntKind.bits] at this
      omega
theorem own_hw {w : World} {base n : Nat} {v : Value} {xs : List Int} (h : w.ownsRow base 37 1 v n (xs.map (Value.int .u16))) (hr : ∀ x ∈ xs, 0 ≤ x ∧ x < 65536) : Hw w v xs ∧ n = xs.length := by
  obtain ⟨hl, h⟩ := h
  have hn : n = xs.length := by simpa using hl.symm
  refine ⟨?_, hn⟩
  rcases h with ⟨rfl, h0⟩ | ⟨g, cap, cur, rfl, _, h2, _, _, _, h3⟩
  · have : xs = [] := List.eq_nil_of_length_eq_zero (by omega)
    subst this
    exact hw_nil w
  · subst hn
    refine ⟨_, cap, rfl, fun k x hx => ?_⟩
    obtain ⟨r1, r2⟩ := hr x (List.mem_of_getElem? hx)
    refine ⟨r1, r2, g, 0, rfl, ?_⟩
    rw [cell_of_row w g (0 + k) cur 37 (0, 0) h2]
    have hk : k < xs.length := (List.getElem?_eq_some_iff.mp hx).1
    have : (cur.toList.take (xs.length * 1))[k]? = some (.int .u16 x) := by rw [h3]; simp [hx]
    rw [List.getElem?_take] at this
    simp [hk] at this
    simp [this]
theorem own_base {w : World} {base n : Nat} {v : Value} {xs : List Value} (h : w.ownsRow base 37 1 v n xs) : ∀ k, v.ownBlock = some k → base ≤ k := by
  obtain ⟨_, h⟩ := h
  rcases h with ⟨rfl, _⟩ | ⟨g, cap, cur, rfl, h1, _⟩
  · intro k hk; simp [Value.ownBlock] at hk
  · intro k hk; simp [Value.ownBlock] at hk; omega
/-- what the document's Decode answers, beside decS -/
theorem refDecode_c {s : Value} {hs : List Int} {w : World} (h : Hw w s hs) : Calls Try.prog 18 #[s] w fun e w' => ∃ i k, RefAt i k w e w' ∧ ((k = 0 ∧ decS hs = (i, 0, 7)) ∨ (k = -1 ∧ decS hs = (i, 0, 8)) ∨ (k = 1 ∧ decS hs = (i, 1, 0)) ∨ (k = 2 ∧ decS hs = (i, 2, 0))) := by
  obtain ⟨A, c, rfl, hk⟩ := h
  cases hs with
  | nil => exact (refDec_nil A c w).mono fun e w' h => ⟨_, _, h, .inl ⟨rfl, rfl⟩⟩
  | cons a t =>
    obtain ⟨ha, ha', g, o, rfl, ca⟩ := hk 0 a rfl
    simp at ca
    by_cases h1 : a / 2048 = 30
    · cases t with
      | nil => exact (refDec_short g o c a w ca h1 ha ha').mono fun e w' h => ⟨_, _, h, .inl ⟨rfl, by unfold decS; dsimp only; rw [if_pos h1]⟩⟩
      | cons b t =>
        obtain ⟨hb, hb', g', o', e, cb⟩ := hk 1 b rfl
        obtain ⟨rfl, rfl⟩ : g = g' ∧ o = o' := by simpa using e
        by_cases h2 : b / 16384 = 3 ∧ b / 4096 % 2 = 1
        · exact (refDec_bl g o _ c a b w (by simp) ca cb h1 h2.1 h2.2 ha ha' hb hb').mono fun e w' h => ⟨_, _, h, .inr (.inr (.inr ⟨rfl, by unfold decS; dsimp only; rw [if_pos h1, if_pos ((and53248 b hb hb').mpr h2)]⟩))⟩
        · exact (refDec_odd g o _ c a b w (by simp) ca cb h1 h2 ha ha' hb hb').mono fun e w' h => ⟨_, _, h, .inr (.inl ⟨rfl, by unfold decS; dsimp only; rw [if_pos h1, if_neg (fun q => h2 ((and53248 b hb hb').mp q))]⟩)⟩
    · rw [decS_row h1]
      have hc := chkH_all a ha ha' h1
      unfold chkH at hc
      dsimp only at hc
      refine (refDec_one g o _ c a w (by simp) ca h1 ha ha').mono ?_
      rintro e w' ⟨k, i, he, hb, hki⟩
      unfold RefOne at hki
      cases hr : rightS (decR1 a) with
      | true =>
        rw [hr, if_pos rfl] at hc hki
        simp only [Prod.mk.injEq] at hki
        obtain ⟨rfl, rfl⟩ := hki
        simp at hc
        exact ⟨_, _, ⟨he, hb⟩, .inr (.inr (.inl ⟨rfl, hc.1⟩))⟩
      | false =>
        rw [hr, if_neg (by simp)] at hc hki
        simp only [Prod.mk.injEq] at hki
        obtain ⟨rfl, rfl⟩ := hki
        simp at hc
        exact ⟨_, _, ⟨he, hb⟩, .inr (.inl ⟨rfl, hc⟩)⟩
theorem own_lit (w : World) (hs : List Int) (hl : hs.length ≤ 2) : (w.alloc (.cells (hs.map (Value.int .u16)).toArray 37)).ownsRow w.heap.size 37 1 (.slice (some ⟨w.heap.size, 0, none⟩) hs.length hs.length) hs.length (hs.map (Value.int .u16)) :=
  ⟨by simp, .inr ⟨w.heap.size, hs.length, (hs.map (Value.int .u16)).toArray, rfl, Nat.le_refl _, heap_alloc_new w _, Nat.le_refl _, by unfold maxLen; omega, by simp, by simp; exact List.take_of_length_le (by simp)⟩⟩
theorem bits16 (x y : Int) : 0 ≤ bits .or .u16 x y ∧ bits .or .u16 x y < 65536 := by
  show 0 ≤ IntKind.u16.wrap _ ∧ IntKind.u16.wrap _ < 65536
  rw [IntKind.wrap_u16]
  omega
set_option maxHeartbeats 16000000 in
set_option maxRecDepth 100000 in
theorem thumbDecodes_top (v0 v1 v2 v3 : Value) (w : World) (u0 : Vw.Arg Try.prog w 26 v0) (u1 : Vw.Arg Try.prog w 37 v1) (u2 : Vw.Arg Try.prog w 37 v2) (u3 : Vw.Arg Try.prog w 4 v3) :
    Calls Try.prog 5 #[v0, v1, v2, v3] w fun e w' => e = .returned (.bool true) ∧ Below w.heap.size w w' := by
  obtain ⟨xs, hxs, hlen, hrange⟩ := arg_halfs u0
  obtain ⟨a, rfl, hwa⟩ := Vw.Arg.int Try.underlying37 u1
  obtain ⟨b, rfl, hwb⟩ := Vw.Arg.int Try.underlying37 u2
  obtain ⟨lg, rfl⟩ := Vw.Arg.bool Try.underlying4 u3
  have ha : 0 ≤ a ∧ a < 65536 := by simp [Lit.wf, IntKind.min, IntKind.max, IntKind.signed, IntKind.bits] at hwa; omega
  clear u0 u1 u2 u3 hwa hwb
  obtain ⟨i0, hi0, hz0, hz1, hz2⟩ := info_parts2 info_u16
  have HX := Lib.hid hxs
  have HR := Lib.hid hrange
  have HLEN := Lib.hid hlen
  clear hxs hrange hlen
  have hsv : ∃ A c, v0 = .slice A xs.length c := by
    rcases HX.out with ⟨h, rfl⟩ | ⟨ad, c, h, _⟩
    · exact ⟨none, 0, h⟩
    · exact ⟨_, _, h⟩
  have HSV := Lib.hid hsv
  clear hsv
  have OA : Hid ((w.alloc (.cells #[.int .u16 a] 37)).ownsRow w.heap.size 37 1 (.slice (some ⟨w.heap.size, 0, none⟩) 1 1) 1 ([a].map (Value.int .u16))) := own_lit w [a] (by simp)
  have ls1r : Hid (∀ x ∈ [a], 0 ≤ x ∧ x < 65536) := fun x hx => by simp at hx; subst hx; exact ha
  go_enter Try.func5, Try.ntmps5
  go_upto_region 1 with (fail)
  go_cut [9] (fun s wx => ∃ hs, Hw wx s hs ∧ Below w.heap.size w wx)
  case first =>
    rcases HX.out with ⟨rfl, rfl⟩ | ⟨ad, c, rfl, hcell⟩
    · go_wp2_with (at_builtin; refine wpList_append_own_none rfl (.tmp 17) (.tmp 18) _ rfl w.heap.size 37 i0 1 Try.underlying26 hi0 _ 1 _ rfl OA.out rfl ?_)
      go_wp2_with fail
      go_meet
      exact ⟨[a], (own_hw OA.out ls1r.out).1, (Below.refl _ _).alloc (Nat.le_refl _) _⟩
    · have HC2 := Lib.hid hcell
      have hxl := HLEN.out
      have HL2 : Hid ((xs.map (Value.int .u16)).length = xs.length * 1) := by show _ = _; simp
      have HC3 : Hid (∀ (j : Nat) u, (xs.map (Value.int .u16))[j]? = some u → (w.alloc (.cells #[.int .u16 a] 37)).cell? (ad.add j) = some u) := fun j u hu => by
        rw [List.getElem?_map, Option.map_eq_some_iff] at hu
        obtain ⟨y, hy, rfl⟩ := hu
        exact cell_new (HC2.out j y hy)
      have HO2 : Hid (∀ u ∈ xs.map (Value.int .u16), u.oneCell' = true) := fun u hu => by
        rw [List.mem_map] at hu; obtain ⟨y, _, rfl⟩ := hu; rfl
      clear hcell
      go_wp2_with (at_builtin; refine wpList_append_own _ rfl (.tmp 17) (.tmp 18) _ rfl w.heap.size 37 i0 _ 1 2 Try.underlying26 hi0 hz0 hz1 hz2 rfl (by omega) _ 1 _ rfl OA.out ad xs.length c _ rfl HL2.out HC3.out HO2.out (by unfold maxLen; omega) (by omega) (by simp) ?_)
      intro v' w5 hown2 hg2 hn2
      have hb5 : Below w.heap.size w w5 := ((Below.refl _ _).alloc (Nat.le_refl _) _).grown hg2 (by simp) (by simp [Value.ownBlock])
      have hown2 : w5.ownsRow w.heap.size 37 1 v' (1 + xs.length) (([a] ++ xs).map (Value.int .u16)) := by rw [List.map_append]; exact hown2
      have HV := Lib.hid (own_hw hown2 (fun x hx => by rcases List.mem_append.mp hx with hx | hx; exact ls1r.out x hx; exact HR.out x hx)).1
      have HB5 := Lib.hid (hb5)
      clear hown2 hg2 hn2 hb5
      go_wp2_with fail
      go_meet
      exact ⟨_, HV.out, HB5.out⟩
  case rest =>
    obtain ⟨hs, hw, hb⟩ := hcut
    have HW := Lib.hid hw
    have HB := Lib.hid hb
    clear hw hb OA ls1r
    go_upto_if 20 with (fail)
    go_cut [9] (fun s wx => ∃ hs, Hw wx s hs ∧ Below w.heap.size w wx)
    case first =>
      cases lg
      · go_wp2_with fail
        go_meet
        exact ⟨hs, HW.out, HB.out⟩
      · obtain ⟨p, hp⟩ : ∃ p, bits .or .u16 61440 (a % 2048) = p := ⟨_, rfl⟩
        obtain ⟨q, hq⟩ : ∃ q, bits .or .u16 53248 b = q := ⟨_, rfl⟩
        have hpr := bits16 61440 (a % 2048)
        have hqr := bits16 53248 b
        rw [hp] at hpr
        rw [hq] at hqr
        have OB : Hid ((wc.alloc (.cells #[.int .u16 p, .int .u16 q] 37)).ownsRow wc.heap.size 37 1 (.slice (some ⟨wc.heap.size, 0, none⟩) 2 2) 2 ([p, q].map (Value.int .u16))) := own_lit wc [p, q] (by simp)
        have ls2r : Hid (∀ x ∈ [p, q], 0 ≤ x ∧ x < 65536) := fun x hx => by
          simp at hx
          rcases hx with rfl | rfl
          · exact hpr
          · exact hqr
        clear hpr hqr
        rcases HX.out with ⟨rfl, rfl⟩ | ⟨ad, c, rfl, hcell⟩
        · go_wp2_with (at_builtin; refine wpList_append_own_none rfl (.tmp 26) (.tmp 27) _ rfl wc.heap.size 37 i0 1 Try.underlying26 hi0 _ 2 _ rfl OB.out rfl ?_)
          go_wp2_with fail
          go_meet
          exact ⟨[p, q], (own_hw OB.out ls2r.out).1, HB.out.alloc HB.out.size _⟩
        · have HC2 := Lib.hid hcell
          have hxl := HLEN.out
          have HL2 : Hid ((xs.map (Value.int .u16)).length = xs.length * 1) := by show _ = _; simp
          have HC3 : Hid (∀ (j : Nat) u, (xs.map (Value.int .u16))[j]? = some u → (wc.alloc (.cells #[.int .u16 p, .int .u16 q] 37)).cell? (ad.add j) = some u) := fun j u hu => by
            rw [List.getElem?_map, Option.map_eq_some_iff] at hu
            obtain ⟨y, hy, rfl⟩ := hu
            exact cell_new (by rw [HB.out.cell (block_lt_of_cell (HC2.out j y hy))]; exact HC2.out j y hy)
          have HO2 : Hid (∀ u ∈ xs.map (Value.int .u16), u.oneCell' = true) := fun u hu => by
            rw [List.mem_map] at hu; obtain ⟨y, _, rfl⟩ := hu; rfl
          clear hcell
          go_wp2_with (at_builtin; refine wpList_append_own _ rfl (.tmp 26) (.tmp 27) _ rfl wc.heap.size 37 i0 _ 1 2 Try.underlying26 hi0 hz0 hz1 hz2 rfl (by omega) _ 2 _ rfl OB.out ad xs.length c _ rfl HL2.out HC3.out HO2.out (by unfold maxLen; omega) (by omega) (by simp) ?_)
          intro v' w5 hown2 hg2 hn2
          have hb5 : Below wc.heap.size wc w5 := ((Below.refl _ _).alloc (Nat.le_refl _) _).grown hg2 (by simp) (by simp [Value.ownBlock])
          have hown2 : w5.ownsRow wc.heap.size 37 1 v' (2 + xs.length) (([p, q] ++ xs).map (Value.int .u16)) := by rw [List.map_append]; exact hown2
          have HV := Lib.hid (own_hw hown2 (fun x hx => by rcases List.mem_append.mp hx with hx | hx; exact ls2r.out x hx; exact HR.out x hx)).1
          have HB5 := Lib.hid (HB.out.trans (hb5.mono HB.out.size))
          clear hown2 hg2 hn2 hb5
          go_wp2_with fail
          go_meet
          exact ⟨_, HV.out, HB5.out⟩
    case rest =>
      obtain ⟨hs2, hw, hb⟩ := hcut
      clear HW HB hs
      have HW := Lib.hid hw
      have HB := Lib.hid hb
      clear hw hb
      obtain ⟨AV, cv, rfl⟩ := HSV.out
      go_upto_if 31 with (fail)
      go_cut [9] (fun s wx => ∃ hs, Hw wx s hs ∧ Below w.heap.size w wx)
      case first =>
        by_cases h40 : (xs.length : Int) > 40
        · go_wp2_with fail
          go_meet
          exact ⟨[], ⟨none, 0, rfl, fun k x h => by simp at h⟩, HB.out⟩
        · go_wp2_with fail
          go_meet
          exact ⟨hs2, HW.out, HB.out⟩
      case rest =>
        obtain ⟨hs, hw, hb⟩ := hcut
        clear HW HB hs2
        have HW := Lib.hid hw
        have HB := Lib.hid hb
        clear hw hb
        go_wp2_with fail
        refine (decode_c HW.out).mono ?_
        intro e w1 h
        obtain ⟨j, n, er, hd⟩ : ∃ (j : Ins) (n er : Int), decS hs = (j, n, er) := ⟨_, _, _, rfl⟩
        rw [hd] at h
        obtain ⟨rfl, hb⟩ := h
        have HD := Lib.hid hd
        have HB1 := Lib.hid ((HB.out.trans (hb.mono HB.out.size)).alloc (by have := HB.out.size; have := hb.size; omega) (.cells #[.int .i64 j.op, .int .i64 j.d, .int .i64 j.n, .int .i64 j.m, .int .i64 j.imm, .int .i64 j.cond] 24))
        have HW1 := Lib.hid ((HW.out.below hb).below ((Below.refl _ _).alloc (Nat.le_refl _) (.cells #[.int .i64 j.op, .int .i64 j.d, .int .i64 j.n, .int .i64 j.m, .int .i64 j.imm, .int .i64 j.cond] 24)))
        have KJ1 := Lib.hid (Blk.new w1 24 #[.int .i64 j.op, .int .i64 j.d, .int .i64 j.n, .int .i64 j.m, .int .i64 j.imm, .int .i64 j.cond])
        clear hb hd
        dsimp only
        go_wp2_with fail
        refine (refDecode_c HW1.out).mono ?_
        rintro e w2 ⟨i, k, ⟨rfl, hb⟩, hcase⟩
        rw [HD.out] at hcase
        have hcase : i = j ∧ ((k = 0 ∧ n = 0 ∧ er = 7) ∨ (k = -1 ∧ n = 0 ∧ er = 8) ∨ (k = 1 ∧ n = 1 ∧ er = 0) ∨ (k = 2 ∧ n = 2 ∧ er = 0)) := by
          simp only [Prod.mk.injEq] at hcase
          rcases hcase with ⟨h1, h2, h3, h4⟩ | ⟨h1, h2, h3, h4⟩ | ⟨h1, h2, h3, h4⟩ | ⟨h1, h2, h3, h4⟩
          · exact ⟨h2.symm, .inl ⟨h1, h3, h4⟩⟩
          · exact ⟨h2.symm, .inr (.inl ⟨h1, h3, h4⟩)⟩
          · exact ⟨h2.symm, .inr (.inr (.inl ⟨h1, h3, h4⟩))⟩
          · exact ⟨h2.symm, .inr (.inr (.inr ⟨h1, h3, h4⟩))⟩
        obtain ⟨rfl, hcase⟩ := hcase
        have HB2 := Lib.hid ((HB1.out.trans (hb.mono HB1.out.size)).alloc (by have := HB1.out.size; have := hb.size; omega) (.cells #[.int .i64 i.op, .int .i64 i.d, .int .i64 i.n, .int .i64 i.m, .int .i64 i.imm, .int .i64 i.cond] 24))
        have KJ2 := Lib.hid ((KJ1.out.only (S := fun _ => False) (Only.of_below hb) id).alloc (.cells #[.int .i64 i.op, .int .i64 i.d, .int .i64 i.n, .int .i64 i.m, .int .i64 i.imm, .int .i64 i.cond] 24))
        have KI2 := Lib.hid (Blk.new w2 24 #[.int .i64 i.op, .int .i64 i.d, .int .i64 i.n, .int .i64 i.m, .int .i64 i.imm, .int .i64 i.cond])
        clear hb HD HB1 HW1 KJ1 HW HB HX HR HLEN HSV
        rcases hcase with ⟨rfl, rfl, rfl⟩ | ⟨rfl, rfl, rfl⟩ | ⟨rfl, rfl, rfl⟩ | ⟨rfl, rfl, rfl⟩
        all_goals
          go_wp2_with fail
          refine (known_c _).mono ?_
          rintro e w3 ⟨rfl, hb⟩
          have HB3 := Lib.hid (HB2.out.trans (hb.mono HB2.out.size))
          have kj := KJ2.out.only (S := fun _ => False) (Only.of_below hb) id
          have ki := KI2.out.only (S := fun _ => False) (Only.of_below hb) id
          have c0 := kj.cell 0
          have c1 := kj.cell 1
          have c2 := kj.cell 2
          have c3 := kj.cell 3
          have c4 := kj.cell 4
          have c5 := kj.cell 5
          have d0 := ki.cell 0
          have d1 := ki.cell 1
          have d2 := ki.cell 2
          have d3 := ki.cell 3
          have d4 := ki.cell 4
          have d5 := ki.cell 5
          simp at c0 c1 c2 c3 c4 c5 d0 d1 d2 d3 d4 d5
          clear hb kj ki
          go_wp2_with fail
          go_ret
          exact ⟨rfl, HB3.out⟩
end Go.Proofs.Ytpcjkllhieiiiaa
