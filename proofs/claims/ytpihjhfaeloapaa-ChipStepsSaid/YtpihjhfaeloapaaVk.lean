/- MERGED by mergev.py: XSa XSo XSe XCp. -/
import Derived.Test.YtpihjhfaeloapaaCy
import Derived.Test.YtpihjhfaeloapaaVg
import Derived.Laws.Rows
import Derived.Test.YtpihjhfaeloapaaVj
import Derived.Deep.MidRow
import Derived.Deep.DeepCutAuto
import Derived.Deep.CutBlock
namespace Go.Proofs.Ytpihjhfaeloapaa
open Go.RowKit On Th
theorem vS_sg (a b : Int) (k : Bool) (ha : U a) (hb : U b) : vS a b (sumX a b k) = (sg a + sg b + cb k != sg (sumX a b k)) := by
  have hn := sumX_U a b k
  rw [vS_top a b _ ha hb hn, sg_eq ha, sg_eq hb, sg_eq hn]
  have hk : 0 ≤ cb k ∧ cb k ≤ 1 := by cases k <;> decide
  unfold U at *
  have hs : sumX a b k = (a + b + cb k) % 4294967296 := rfl
  generalize cb k = c at *
  generalize sumX a b k = n at *
  have p : a / 2147483648 = 0 ∨ a / 2147483648 = 1 := by omega
  have q : b / 2147483648 = 0 ∨ b / 2147483648 = 1 := by omega
  have r : n / 2147483648 = 0 ∨ n / 2147483648 = 1 := by omega
  rw [Bool.eq_iff_iff]
  rcases p with p | p <;> rcases q with q | q <;> rcases r with r | r <;> simp [p, q, r] <;> omega
theorem wrap32_sg' {a : Int} (h : U a) : wrap32 a = sg a := by
  unfold U at h; unfold sg wrap32
  split <;> omega
theorem rsum_c (w : World) (a b : Int) (k : Bool) (ha : U a) (hb : U b) :
    Calls Try.prog 69 #[.int .u32 a, .int .u32 b, .int .u64 (cb k)] w fun e w' => e = .returned (.tuple #[.int .u32 (sumX a b k), .bool ((a + b + cb k) / 4294967296 == 1), .bool (vS a b (sumX a b k))]) ∧ w = w' := by
  have hv := vS_sg a b k ha hb
  have hk : 0 ≤ cb k ∧ cb k ≤ 1 := by cases k <;> decide
  have hX : Hid ((a + b + cb k) % 4294967296 = sumX a b k) := rfl
  have hU := sumX_U a b k
  have HV := Lib.hid hv
  have ea := wrap32_sg' ha
  have eb := wrap32_sg' hb
  have ex := wrap32_sg' hU
  obtain ⟨a0, a1⟩ := ha
  obtain ⟨b0, b1⟩ := hb
  obtain ⟨k0, k1⟩ := hk
  clear hv
  generalize cb k = c at *
  go_enter Try.func69, Try.ntmps69
  go_wp2_with fail
  have ba : -2147483648 ≤ sg a ∧ sg a ≤ 2147483647 := by unfold sg; split <;> omega
  have bb : -2147483648 ≤ sg b ∧ sg b ≤ 2147483647 := by unfold sg; split <;> omega
  have bx : -2147483648 ≤ sg (sumX a b k) ∧ sg (sumX a b k) ≤ 2147483647 := by obtain ⟨u0, u1⟩ := hU; unfold sg; split <;> omega
  have hX' : (a + b + c) % 4294967296 = sumX a b k := hX.out
  have e1 : decide (4294967296 ≤ a + b + c) = ((a + b + c) / 4294967296 == 1) := by
    rw [Bool.eq_iff_iff]; simp; omega
  have e2 : (wrap64 (wrap64 (wrap64 (sg a) + wrap64 (sg b)) + c) != wrap64 (wrap32 ((a + b + c) % 4294967296))) = vS a b (sumX a b k) := by
    have hv := HV.out
    rw [hv, hX', ex]
    generalize sg a = x at *
    generalize sg b = y at *
    generalize sg (sumX a b k) = z at *
    have w1 : wrap64 x = x := by unfold wrap64; omega
    have w2 : wrap64 y = y := by unfold wrap64; omega
    have w3 : wrap64 z = z := by unfold wrap64; omega
    have w4 : wrap64 (x + y) = x + y := by unfold wrap64; omega
    have w5 : wrap64 (x + y + c) = x + y + c := by unfold wrap64; omega
    rw [w1, w2, w3, w4, w5]
  refine bodyPost_ret (v := .tuple #[.int .u32 ((a + b + c) % 4294967296), .bool (decide (4294967296 ≤ a + b + c)), .bool (wrap64 (wrap64 (wrap64 (sg a) + wrap64 (sg b)) + c) != wrap64 (wrap32 ((a + b + c) % 4294967296)))]) (by simp [results, Try.results69, go_sem]) rfl ⟨?_, rfl⟩
  rw [e1, e2, hX']
theorem nz_c (w : World) (p : Nat) (c : Ch) (n : Int) (h : ChW w p c) (hn : U n) :
    Calls Try.prog 43 #[.pointer (some ⟨p, 0, none⟩), .int .u32 n] w fun e w' => e = .returned (.tuple #[]) ∧ ChW w' p { c with nf := n / 2147483648 == 1, zf := n == 0 } ∧ Only (fun k => k = p) w w' := by
  obtain ⟨q16, q17, _⟩ := h.rest
  have z16 := h.frozen 16
  have z17 := h.frozen 17
  have H := Lib.hid h
  obtain ⟨hn0, hn1⟩ := hn
  clear h
  go_enter Try.func43, Try.ntmps43
  go_wp2_with fail
  go_end0
  exact ⟨rfl, (H.out.setNf _).setZf _, ((Only.refl (fun k => k = p) w).setCell (p := ⟨p, 16, none⟩) (.inl rfl) _).setCell (p := ⟨p, 17, none⟩) (.inl rfl) _⟩
/-- a sum's flags, in a chip -/
def Ch.addF (c : Ch) (a b : Int) (k : Bool) : Ch := { c with nf := sumX a b k / 2147483648 == 1, zf := sumX a b k == 0, cf := (a + b + cb k) / 4294967296 == 1, vf := vS a b (sumX a b k) }
theorem add_c (w : World) (p : Nat) (c : Ch) (a b : Int) (k : Bool) (h : ChW w p c) (ha : U a) (hb : U b) :
    Calls Try.prog 44 #[.pointer (some ⟨p, 0, none⟩), .int .u32 a, .int .u32 b, .int .u64 (cb k)] w fun e w' => e = .returned (.int .u32 (sumX a b k)) ∧ ChW w' p (c.addF a b k) ∧ Only (fun k => k = p) w w' := by
  have HS := Lib.hid (rsum_c w a b k ha hb)
  have HNZ := Lib.hid (nz_c w p c (sumX a b k) h (sumX_U a b k))
  have HD : Hid (c.addF a b k = { ({ c with nf := sumX a b k / 2147483648 == 1, zf := sumX a b k == 0 } : Ch) with cf := (a + b + cb k) / 4294967296 == 1, vf := vS a b (sumX a b k) }) := rfl
  generalize c.addF a b k = c9 at *
  generalize ({ c with nf := sumX a b k / 2147483648 == 1, zf := sumX a b k == 0 } : Ch) = c1 at *
  generalize vS a b (sumX a b k) = v at *
  generalize ((a + b + cb k) / 4294967296 == 1) = cc at *
  generalize sumX a b k = x at *
  clear h ha hb
  go_enter Try.func44, Try.ntmps44
  go_wp2_with fail
  refine (HS.out).mono ?_
  rintro e w' ⟨rfl, rfl⟩
  go_wp2_with fail
  refine (HNZ.out).mono ?_
  rintro e w1 ⟨rfl, hc, ho⟩
  obtain ⟨_, _, q18, q19, _⟩ := hc.rest
  have z18 := hc.frozen 18
  have z19 := hc.frozen 19
  have HC := Lib.hid hc; have HO := Lib.hid ho
  clear hc ho HS HNZ
  go_wp2_with fail
  go_ret
  exact ⟨rfl, by rw [HD.out]; exact (HC.out.setCf _).setVf _, (HO.out.setCell (p := ⟨p, 18, none⟩) (.inl rfl) _).setCell (p := ⟨p, 19, none⟩) (.inl rfl) _⟩
theorem bit_c (w : World) (b : Bool) : Calls Try.prog 46 #[.bool b] w fun e w' => e = .returned (.int .u64 (cb b)) ∧ w = w' := by
  go_enter Try.func46, Try.ntmps46
  cases b <;> (go_wp2_with fail; go_ret; exact ⟨rfl, rfl⟩)
end Go.Proofs.Ytpihjhfaeloapaa
namespace Go.Proofs.Ytpihjhfaeloapaa
open Go.RowKit On Th
theorem rm_only {w w' : World} {p g : Nat} {f : Nat → Int} {S : Nat → Prop} (h : Mm w 78 p g f) (hO : Only S w w') (h1 : ¬ S p) (h2 : ¬ S g) : Mm w' 78 p g f := ⟨h.1.only hO h1, h.2.only hO h2⟩
theorem rhalf_c (w : World) (p g : Nat) (f : Nat → Int) (a : Int) (h : Mm w 78 p g f) :
    Calls Try.prog 41 #[.pointer (some ⟨p, 0, none⟩), .int .i64 a] w fun e w' => e = .returned (.tuple #[.int .u16 (halfS f a).1, .bool (halfS f a).2]) ∧ ∃ q, w' = w.drewN q := by
  unfold halfS
  by_cases c : 0 ≤ a ∧ a % 2 = 0 ∧ a < 131072
  · rw [if_pos c]; exact rhalf_yes w p g f a h c.1 c.2.1 c.2.2
  · rw [if_neg c]; exact (rhalf_no w _ a (by omega)).mono fun e w' h => ⟨h.1, 0, h.2.symm⟩
theorem hs_stop (f : Nat → Int) (a : Int) (ha : 0 ≤ a) {k : Nat} (hk : k < 2) (h : (halfS f (a + 2 * k)).2 = false) : hsTo f a 2 = hsTo f a k := by
  match k, hk with
  | 0, _ =>
    have h1 : (halfS f (a + 2 * ((1 : Nat) : Int))).2 = false := by
      unfold halfS at h ⊢
      split at h
      · cases h
      · rw [if_neg (by omega)]
    show (hsTo f a 0 ++ (if (halfS f (a + 2 * ((0 : Nat) : Int))).2 then _ else [])) ++ (if (halfS f (a + 2 * ((1 : Nat) : Int))).2 then _ else []) = hsTo f a 0
    rw [h, h1]
    simp
  | 1, _ =>
    show hsTo f a 1 ++ (if (halfS f (a + 2 * ((1 : Nat) : Int))).2 then _ else []) = _
    rw [h]
    simp
theorem hs_go (f : Nat → Int) (a : Int) {k : Nat} (h : (halfS f (a + 2 * k)).2 = true) : hsTo f a (k + 1) = hsTo f a k ++ [(halfS f (a + 2 * k)).1] := by
  show hsTo f a k ++ (if (halfS f (a + 2 * k)).2 then _ else []) = _
  rw [h]; rfl
theorem dec_rt {hs : List Int} {i : Ins} {n : Int} (h : decS hs = (i, n, 0)) : i.op = 43 ∨ rightS i = true := by
  unfold decS at h
  cases hs with
  | nil => simp at h
  | cons a t =>
    dsimp only at h
    by_cases h1 : a / 2048 = 30
    · rw [if_pos h1] at h
      cases t with
      | nil => simp at h
      | cons b u =>
        dsimp only at h
        by_cases h2 : bits .and .u16 b 53248 = 53248
        · rw [if_pos h2] at h
          simp only [Prod.mk.injEq, and_true] at h
          obtain ⟨rfl, rfl⟩ := h
          exact .inl rfl
        · rw [if_neg h2] at h; simp at h
    · rw [if_neg h1] at h
      by_cases h2 : a / 256 = 70
      · rw [if_pos h2] at h
        by_cases h3 : rightS (movI a) = true
        · rw [if_pos h3] at h
          simp only [Prod.mk.injEq, and_true] at h
          obtain ⟨rfl, rfl⟩ := h
          exact .inr h3
        · rw [if_neg h3] at h; simp at h
      · rw [if_neg h2] at h
        cases hr : rowOf (opS a) with
        | none => rw [hr] at h; simp at h
        | some x =>
          obtain ⟨b, l⟩ := x
          rw [hr] at h
          dsimp only at h
          by_cases h3 : (((readUp (opS a) a l l.length).2 == b) && rightS (readUp (opS a) a l l.length).1) = true
          · rw [if_pos h3] at h
            simp only [Prod.mk.injEq, and_true] at h
            obtain ⟨rfl, rfl⟩ := h
            simp only [Bool.and_eq_true] at h3
            exact .inr h3.2
          · rw [if_neg h3] at h; simp at h
set_option maxRecDepth 100000 in
theorem rest_lit (g : Nat → Value) : (List.range' 24 608).map g = [g 24, g 25, g 26, g 27, g 28, g 29, g 30, g 31, g 32, g 33, g 34, g 35, g 36, g 37, g 38, g 39, g 40, g 41, g 42, g 43, g 44, g 45, g 46, g 47, g 48, g 49, g 50, g 51, g 52, g 53, g 54, g 55, g 56, g 57, g 58, g 59, g 60, g 61, g 62, g 63, g 64, g 65, g 66, g 67, g 68, g 69, g 70, g 71, g 72, g 73, g 74, g 75, g 76, g 77, g 78, g 79, g 80, g 81, g 82, g 83, g 84, g 85, g 86, g 87, g 88, g 89, g 90, g 91, g 92, g 93, g 94, g 95, g 96, g 97, g 98, g 99, g 100, g 101, g 102, g 103, g 104, g 105, g 106, g 107, g 108, g 109, g 110, g 111, g 112, g 113, g 114, g 115, g 116, g 117, g 118, g 119, g 120, g 121, g 122, g 123, g 124, g 125, g 126, g 127, g 128, g 129, g 130, g 131, g 132, g 133, g 134, g 135, g 136, g 137, g 138, g 139, g 140, g 141, g 142, g 143, g 144, g 145, g 146, g 147, g 148, g 149, g 150, g 151, g 152, g 153, g 154, g 155, g 156, g 157, g 158, g 159, g 160, g 161, g 162, g 163, g 164, g 165, g 166, g 167, g 168, g 169, g 170, g 171, g 172, g 173, g 174, g 175, g 176, g 177, g 178, g 179, g 180, g 181, g 182, g 183, g 184, g 185, g 186, g 187, g 188, g 189, g 190, g 191, g 192, g 193, g 194, g 195, g 196, g 197, g 198, g 199, g 200, g 201, g 202, g 203, g 204, g 205, g 206, g 207, g 208, g 209, g 210, g 211, g 212, g 213, g 214, g 215, g 216, g 217, g 218, g 219, g 220, g 221, g 222, g 223, g 224, g 225, g 226, g 227, g 228, g 229, g 230, g 231, g 232, g 233, g 234, g 235, g 236, g 237, g 238, g 239, g 240, g 241, g 242, g 243, g 244, g 245, g 246, g 247, g 248, g 249, g 250, g 251, g 252, g 253, g 254, g 255, g 256, g 257, g 258, g 259, g 260, g 261, g 262, g 263, g 264, g 265, g 266, g 267, g 268, g 269, g 270, g 271, g 272, g 273, g 274, g 275, g 276, g 277, g 278, g 279, g 280, g 281, g 282, g 283, g 284, g 285, g 286, g 287, g 288, g 289, g 290, g 291, g 292, g 293, g 294, g 295, g 296, g 297, g 298, g 299, g 300, g 301, g 302, g 303, g 304, g 305, g 306, g 307, g 308, g 309, g 310, g 311, g 312, g 313, g 314, g 315, g 316, g 317, g 318, g 319, g 320, g 321, g 322, g 323, g 324, g 325, g 326, g 327, g 328, g 329, g 330, g 331, g 332, g 333, g 334, g 335, g 336, g 337, g 338, g 339, g 340, g 341, g 342, g 343, g 344, g 345, g 346, g 347, g 348, g 349, g 350, g 351, g 352, g 353, g 354, g 355, g 356, g 357, g 358, g 359, g 360, g 361, g 362, g 363, g 364, g 365, g 366, g 367, g 368, g 369, g 370, g 371, g 372, g 373, g 374, g 375, g 376, g 377, g 378, g 379, g 380, g 381, g 382, g 383, g 384, g 385, g 386, g 387, g 388, g 389, g 390, g 391, g 392, g 393, g 394, g 395, g 396, g 397, g 398, g 399, g 400, g 401, g 402, g 403, g 404, g 405, g 406, g 407, g 408, g 409, g 410, g 411, g 412, g 413, g 414, g 415, g 416, g 417, g 418, g 419, g 420, g 421, g 422, g 423, g 424, g 425, g 426, g 427, g 428, g 429, g 430, g 431, g 432, g 433, g 434, g 435, g 436, g 437, g 438, g 439, g 440, g 441, g 442, g 443, g 444, g 445, g 446, g 447, g 448, g 449, g 450, g 451, g 452, g 453, g 454, g 455, g 456, g 457, g 458, g 459, g 460, g 461, g 462, g 463, g 464, g 465, g 466, g 467, g 468, g 469, g 470, g 471, g 472, g 473, g 474, g 475, g 476, g 477, g 478, g 479, g 480, g 481, g 482, g 483, g 484, g 485, g 486, g 487, g 488, g 489, g 490, g 491, g 492, g 493, g 494, g 495, g 496, g 497, g 498, g 499, g 500, g 501, g 502, g 503, g 504, g 505, g 506, g 507, g 508, g 509, g 510, g 511, g 512, g 513, g 514, g 515, g 516, g 517, g 518, g 519, g 520, g 521, g 522, g 523, g 524, g 525, g 526, g 527, g 528, g 529, g 530, g 531, g 532, g 533, g 534, g 535, g 536, g 537, g 538, g 539, g 540, g 541, g 542, g 543, g 544, g 545, g 546, g 547, g 548, g 549, g 550, g 551, g 552, g 553, g 554, g 555, g 556, g 557, g 558, g 559, g 560, g 561, g 562, g 563, g 564, g 565, g 566, g 567, g 568, g 569, g 570, g 571, g 572, g 573, g 574, g 575, g 576, g 577, g 578, g 579, g 580, g 581, g 582, g 583, g 584, g 585, g 586, g 587, g 588, g 589, g 590, g 591, g 592, g 593, g 594, g 595, g 596, g 597, g 598, g 599, g 600, g 601, g 602, g 603, g 604, g 605, g 606, g 607, g 608, g 609, g 610, g 611, g 612, g 613, g 614, g 615, g 616, g 617, g 618, g 619, g 620, g 621, g 622, g 623, g 624, g 625, g 626, g 627, g 628, g 629, g 630, g 631] := rfl
/-- the document's frame behind its switch -/
def RFr (up cp res ws : Nat) (pc n co tc : Int) (fb : Bool) (g : Nat → Value) : Act := ⟨(g 0 :: g 1 :: .pointer (some ⟨up, 0, none⟩) :: .pointer (some ⟨cp, 0, none⟩) :: g 4 :: g 5 :: .pointer (some ⟨res, 0, none⟩) :: .int .i64 pc :: g 8 :: g 9 :: g 10 :: g 11 :: g 12 :: g 13 :: .pointer (some ⟨ws, 0, none⟩) :: g 15 :: .int .u32 n :: .int .i64 co :: .int .i64 tc :: g 19 :: g 20 :: g 21 :: g 22 :: .bool fb :: (List.range' 24 608).map g).toArray, []⟩
set_option maxRecDepth 100000 in
theorem RFr.ex (up cp res ws : Nat) (pc n co tc : Int) (fb : Bool) (v0 v1 v4 v5 v8 v9 v10 v11 v12 v13 v15 v19 v20 v21 v22 : Value) (l : List Value) (hl : l.length = 608) :
    ∃ g, (⟨(v0 :: v1 :: .pointer (some ⟨up, 0, none⟩) :: .pointer (some ⟨cp, 0, none⟩) :: v4 :: v5 :: .pointer (some ⟨res, 0, none⟩) :: .int .i64 pc :: v8 :: v9 :: v10 :: v11 :: v12 :: v13 :: .pointer (some ⟨ws, 0, none⟩) :: v15 :: .int .u32 n :: .int .i64 co :: .int .i64 tc :: v19 :: v20 :: v21 :: v22 :: .bool fb :: l).toArray, []⟩ : Act) = RFr up cp res ws pc n co tc fb g := by
  refine ⟨fun i => if i < 24 then [v0, v1, v0, v0, v4, v5, v0, v0, v8, v9, v10, v11, v12, v13, v0, v15, v0, v0, v0, v19, v20, v21, v22].getD i v0 else l.getD (i - 24) v0, ?_⟩
  have e : (List.range' 24 608).map (fun i => if i < 24 then [v0, v1, v0, v0, v4, v5, v0, v0, v8, v9, v10, v11, v12, v13, v0, v15, v0, v0, v0, v19, v20, v21, v22].getD i v0 else l.getD (i - 24) v0) = l := by
    refine List.ext_getElem (by simp [hl]) ?_
    intro i h1 h2
    rw [List.getElem_map, List.getElem_range', if_neg (by omega)]
    simp [List.getD_eq_getElem?_getD, h2]
  unfold RFr
  rw [e]
  rfl
/-- what holds behind the document's switch: cp the chip, ws the chip as it was -/
def RRel (up cp res ws rm rg : Nat) (c : Ch) (f : Nat → Int) (pc : Int) (wA : World) (a' : Act) (wx : World) : Prop :=
  ∃ (g : Nat → Value) (n1 co1 to1 : Int) (fb : Bool) (c2 : Ch) (f2 : Nat → Int), a' = RFr up cp res ws pc n1 co1 to1 fb g ∧ U n1 ∧ ChW wx cp c2 ∧ ChW wx ws c ∧ Mm wx 78 rm rg f2 ∧ Only (fun j => j = cp ∨ j = rg) wA wx ∧ (fb = true → ∀ mp, stepS mp c f = ({ c with st := 2 }, f2, [])) ∧ (fb = false → ∀ mp, stepS mp c f = ({ c2 with R := c2.R.set 15 n1, cyc := wrap64 (c2.cyc + co1) }, f2, [⟨4, pc, to1, co1⟩]))
theorem rmeet {up cp res ws rm rg : Nat} {c : Ch} {f : Nat → Int} {pc : Int} {wA wx : World} {J : Act → World → Prop} (hJ : ∀ a' wx, RRel up cp res ws rm rg c f pc wA a' wx → J a' wx) {n co tc : Int} {fb : Bool} {v0 v1 v4 v5 v8 v9 v10 v11 v12 v13 v15 v19 v20 v21 v22 : Value} {l : List Value} (hl : l.length = 608) (c2 : Ch) (f2 : Nat → Int) (h0 : U n)
    (h1 : ChW wx cp c2) (h2 : ChW wx ws c) (h3 : Mm wx 78 rm rg f2) (h4 : Only (fun j => j = cp ∨ j = rg) wA wx) (h5 : fb = true → ∀ mp, stepS mp c f = ({ c with st := 2 }, f2, [])) (h6 : fb = false → ∀ mp, stepS mp c f = ({ c2 with R := c2.R.set 15 n, cyc := wrap64 (c2.cyc + co) }, f2, [⟨4, pc, tc, co⟩])) :
    Met J ⟨(v0 :: v1 :: .pointer (some ⟨up, 0, none⟩) :: .pointer (some ⟨cp, 0, none⟩) :: v4 :: v5 :: .pointer (some ⟨res, 0, none⟩) :: .int .i64 pc :: v8 :: v9 :: v10 :: v11 :: v12 :: v13 :: .pointer (some ⟨ws, 0, none⟩) :: v15 :: .int .u32 n :: .int .i64 co :: .int .i64 tc :: v19 :: v20 :: v21 :: v22 :: .bool fb :: l).toArray, []⟩ wx := by
  obtain ⟨g, hg⟩ := RFr.ex up cp res ws pc n co tc fb v0 v1 v4 v5 v8 v9 v10 v11 v12 v13 v15 v19 v20 v21 v22 l hl
  exact Met.intro (hJ _ _ ⟨g, n, co, tc, fb, c2, f2, hg, h0, h1, h2, h3, h4, h5, h6⟩)
/-- a list of events at block p, its row in block g -/
def Us (w : World) (p : Nat) (g : Option Nat) (l : List Ev) : Prop :=
  ∃ v, Blk w p 45 #[v] ∧ w.ownsRow 0 51 4 v l.length (l.flatMap Ev.cells) ∧ v.ownBlock = g
theorem Us.keep {w w' : World} {S : Nat → Prop} {p : Nat} {g : Option Nat} {l : List Ev} (h : Us w p g l) (hO : Only S w w') (hn : ∀ k, TrB p g k → ¬ S k) : Us w' p g l := by
  obtain ⟨v, h1, h2, h3⟩ := h
  exact ⟨v, h1.only hO (hn p (.inl rfl)), own_only h2 hO (fun k hk => hn k (.inr (by rw [← h3, hk]))), h3⟩
theorem Us.lt {w : World} {p : Nat} {g : Option Nat} {l : List Ev} (h : Us w p g l) : ∀ k, TrB p g k → k < w.heap.size := by
  obtain ⟨v, h1, h2, h3⟩ := h
  rintro k (rfl | hk)
  · exact h1.lt
  · exact own_lt h2 (by rw [h3, hk])
theorem Us.far {w : World} {p m rg : Nat} {g : Option Nat} {l : List Ev} {f : Nat → Int} (h : Us w p g l) (hm : Mm w 78 m rg f) {k : Nat} (hk : TrB p g k) : k ≠ rg := by
  obtain ⟨v, h1, h2, h3⟩ := h
  obtain ⟨_, cs, hc, _⟩ := hm
  rcases hk with rfl | hk
  · exact h1.ne hc (by decide)
  · obtain ⟨A, c, rfl, ⟨rfl, _⟩ | ⟨gg, cur, rfl, _, hg, _⟩⟩ := own_slice h2
    · rw [← h3] at hk; simp [Value.ownBlock] at hk
    · rw [← h3] at hk
      simp [Value.ownBlock] at hk
      subst hk
      exact Blk.ne (w := w) hg hc (by decide)
theorem Us.far2 {w : World} {p m rg : Nat} {g : Option Nat} {l : List Ev} {f : Nat → Int} (h : Us w p g l) (hm : Mm w 78 m rg f) {k : Nat} (hk : TrB p g k) : k ≠ m := by
  obtain ⟨v, h1, h2, h3⟩ := h
  obtain ⟨hc, _⟩ := hm
  rcases hk with rfl | hk
  · exact h1.ne hc (by decide)
  · obtain ⟨A, c, rfl, ⟨rfl, _⟩ | ⟨gg, cur, rfl, _, hg, _⟩⟩ := own_slice h2
    · rw [← h3] at hk; simp [Value.ownBlock] at hk
    · rw [← h3] at hk
      simp [Value.ownBlock] at hk
      subst hk
      exact Blk.ne (w := w) hg hc (by decide)
theorem chip_row {c : Ch} (h : c.ok) : ((Try.prog.info? 44).map (·.size) = some c.cells.length) ∧ ((Try.prog.info? 44).map (·.size) = some c.cells.toArray.size) ∧ ((#[.int .u32 0, .int .u32 0, .int .u32 0, .int .u32 0, .int .u32 0, .int .u32 0, .int .u32 0, .int .u32 0, .int .u32 0, .int .u32 0, .int .u32 0, .int .u32 0, .int .u32 0, .int .u32 0, .int .u32 0, .int .u32 0, .bool false, .bool false, .bool false, .bool false, .int .i64 0, .int .i64 0, .int .i64 0] : Array Value).size = c.cells.toArray.size) ∧ c.cells.toArray.all (·.oneCell') = true := by
  have e := Ch.cells_len h
  refine ⟨by rw [info_chip, e], by rw [info_chip, List.size_toArray, e], ?_, Ch.cells_one c⟩
  have e2 : c.cells.toArray.size = 23 := by rw [List.size_toArray, e]
  rw [e2]; rfl
theorem setRow_only (w : World) (k : Nat) (A : Array Value) : Only (fun j => j = k) w (w.setRow k A) := ⟨rfl, rfl, rfl, by simp [World.setRow], fun i _ hn => setRow_other _ _ _ _ hn⟩
/-- what the document's Step does -/
def RStepP (mp : Value) (rm rg up : Nat) (ug : Option Nat) (c : Ch) (f : Nat → Int) (L : List Ev) (w : World) (e : Ending) (w' : World) : Prop :=
  e = .returned (.agg (stepS mp c f).1.cells.toArray) ∧ Mm w' 78 rm rg (stepS mp c f).2.1 ∧
  ∃ ug', Us w' up ug' (L ++ (stepS mp c f).2.2) ∧ (ug' = ug ∨ ∃ k, ug' = some k ∧ w.heap.size ≤ k) ∧ Only (fun k => k = rg ∨ TrB up ug k) w w'
end Go.Proofs.Ytpihjhfaeloapaa
namespace Go.Proofs.Ytpihjhfaeloapaa
open Go.RowKit On Th
theorem rword_c (w : World) (m g : Nat) (f : Nat → Int) (a : Int) (h : Mm w 78 m g f) :
    Calls Try.prog 26 #[.pointer (some ⟨m, 0, none⟩), .int .i64 a] w fun e w' => e = .returned (.tuple #[.int .u32 (wordS f a).1, .bool (wordS f a).2]) ∧ ∃ q, w' = w.drewN q := by
  unfold wordS
  by_cases c : 0 ≤ a ∧ a % 4 = 0 ∧ a < 262144
  · rw [if_pos c]; exact rword_yes w m g f a h c.1 c.2.1 c.2.2
  · rw [if_neg c]; exact (rword_no w _ a (by omega)).mono fun e w' ⟨e1, e2⟩ => ⟨e1, 0, e2.symm⟩
theorem rbyte_c (w : World) (m g : Nat) (f : Nat → Int) (a : Int) (h : Mm w 78 m g f) :
    Calls Try.prog 47 #[.pointer (some ⟨m, 0, none⟩), .int .i64 a] w fun e w' => e = .returned (.tuple #[.int .u8 (byteS f a).1, .bool (byteS f a).2]) ∧ w = w' := by
  unfold byteS
  by_cases c : 0 ≤ a ∧ a < 262144
  · rw [if_pos c]; exact rbyte_yes w m g f a h c.1 c.2
  · rw [if_neg c]; exact rbyte_no w _ a (by omega)
theorem rsetword_c (w : World) (m g : Nat) (f : Nat → Int) (a v : Int) (h : Mm w 78 m g f) :
    Calls Try.prog 49 #[.pointer (some ⟨m, 0, none⟩), .int .i64 a, .int .u32 v] w fun e w' => e = .returned (.bool (setWordS f a v).2) ∧ Mm w' 78 m g (setWordS f a v).1 ∧ Only (fun k => k = g) w w' := by
  unfold setWordS
  by_cases c : 131072 ≤ a ∧ a % 4 = 0 ∧ a < 262144
  · rw [if_pos c]; exact rsetword_yes w m g f a v h c.1 c.2.1 c.2.2
  · rw [if_neg c]; exact (rsetword_no w _ a v (by omega)).mono fun e w' ⟨e1, e2⟩ => ⟨e1, e2 ▸ h, e2 ▸ Only.refl _ _⟩
theorem rsetbyte_c (w : World) (m g : Nat) (f : Nat → Int) (a v : Int) (h : Mm w 78 m g f) (hv : 0 ≤ v ∧ v ≤ 255) :
    Calls Try.prog 48 #[.pointer (some ⟨m, 0, none⟩), .int .i64 a, .int .u8 v] w fun e w' => e = .returned (.bool (setByteS f a v).2) ∧ Mm w' 78 m g (setByteS f a v).1 ∧ Only (fun k => k = g) w w' := by
  unfold setByteS
  by_cases c : 131072 ≤ a ∧ a < 262144
  · rw [if_pos c]; exact rsetbyte_yes w m g f a v h c.1 c.2 hv
  · rw [if_neg c]; exact (rsetbyte_no w _ a v (by omega)).mono fun e w' ⟨e1, e2⟩ => ⟨e1, e2 ▸ h, e2 ▸ Only.refl _ _⟩
theorem byteS_U {f : Nat → Int} (hf : ∀ i, 0 ≤ f i ∧ f i ≤ 255) (a : Int) : U (byteS f a).1 := by
  unfold byteS U
  split
  · have := hf a.toNat; dsimp only; omega
  · dsimp only; omega
/-- the place of an operation in the document's row -/
def logS (op : Int) : Int := if op = 12 then 0 else if op = 13 then 1 else if op = 24 then 2 else if op = 26 then 3 else if op = 27 then 4 else if op = 25 then 5 else 6
theorem logic_c (w : World) (op : Int) (ho : op = 12 ∨ op = 13 ∨ op = 24 ∨ op = 26 ∨ op = 27 ∨ op = 25 ∨ op = 20) :
    Calls Try.prog 45 #[.int .i64 op] w fun e w' => e = .returned (.int .i64 (logS op)) ∧ w = w' := by
  rcases ho with rfl | rfl | rfl | rfl | rfl | rfl | rfl
  all_goals
    go_enter Try.func45, Try.ntmps45
    go_wp2_with fail
    go_ret
    exact ⟨rfl, rfl⟩
set_option maxHeartbeats 8000000 in
set_option maxRecDepth 100000 in
theorem rholds_c (w : World) (c : Ch) (hok : c.ok) (cond : Int) (h0 : 0 ≤ cond) (h1 : cond ≤ 13) :
    Calls Try.prog 50 #[.int .i64 cond, .agg c.cells.toArray] w fun e w' => e = .returned (.bool (c.holds cond)) ∧ Only (fun _ => False) w w' := by
  obtain ⟨wa, hwa⟩ : ∃ wa, wa = w.alloc (.cells c.cells.toArray 44) := ⟨_, rfl⟩
  have HO : Hid (Only (fun _ => False) w wa) := by rw [hwa]; exact (Only.refl (fun _ => False) w).alloc _
  have hc : ChW wa w.heap.size c := by rw [hwa]; exact ⟨Blk.new w _ _, hok⟩
  obtain ⟨f0, f1, f2, f3, _⟩ := hc.rest
  have hcc : cond = 0 ∨ cond = 1 ∨ cond = 2 ∨ cond = 3 ∨ cond = 4 ∨ cond = 5 ∨ cond = 6 ∨ cond = 7 ∨ cond = 8 ∨ cond = 9 ∨ cond = 10 ∨ cond = 11 ∨ cond = 12 ∨ cond = 13 := by omega
  have HH : Hid (c.holds cond = holdsS c.nf c.zf c.cf c.vf cond) := rfl
  go_enter Try.func50, Try.ntmps50
  go_upto_region 1 with (fail)
  rw [← hwa]
  clear hwa hc hok h0 h1
  generalize c.nf = nf at *
  generalize c.zf = zf at *
  generalize c.cf = cf at *
  generalize c.vf = vf at *
  generalize w.heap.size = p at *
  rcases hcc with rfl | rfl | rfl | rfl | rfl | rfl | rfl | rfl | rfl | rfl | rfl | rfl | rfl | rfl
  case inr.inr.inr.inr.inr.inr.inr.inr.inr.inr.inr.inr.inl | inr.inr.inr.inr.inr.inr.inr.inr.inr.inr.inr.inr.inr =>
    cases zf
    all_goals
      go_wp2_with fail
      go_ret
      exact ⟨by rw [HH.out]; simp [holdsS], HO.out⟩
  case inr.inr.inr.inr.inr.inr.inr.inr.inl | inr.inr.inr.inr.inr.inr.inr.inr.inr.inl =>
    cases cf
    all_goals
      go_wp2_with fail
      go_ret
      exact ⟨by rw [HH.out]; simp [holdsS], HO.out⟩
  all_goals
    go_wp2_with fail
    go_ret
    exact ⟨by rw [HH.out]; simp [holdsS], HO.out⟩
end Go.Proofs.Ytpihjhfaeloapaa
namespace Go.Proofs.Ytpihjhfaeloapaa
open Go.RowKit On Th
theorem getB_congr {f f' : Nat → Int} {a n : Nat} (h : ∀ j, a ≤ j → j < a + n → f' j = f j) : getB f' a n = getB f a n := by
  induction n with
  | zero => rfl
  | succ n ih =>
    rw [getB_succ, getB_succ, ih (fun j h1 h2 => h j h1 (by omega)), h (a + n) (by omega) (by omega)]
theorem setB_get {f : Nat → Int} {a : Nat} {n : Int} (hn : U n) : getB (setB f a 4 n) a 4 = n := by
  have h : ∀ j, j < 4 → setB f a 4 n (a + j) = byteAt n j := fun j hj => by unfold setB; rw [if_pos (by omega)]; congr 1; omega
  unfold U at hn
  unfold getB getB getB getB getB
  rw [h 0 (by omega), h 1 (by omega), h 2 (by omega), h 3 (by omega)]
  unfold byteAt; simp; omega
theorem setB_low {f : Nat → Int} {a k j : Nat} {v : Int} (h : j < a ∨ a + k ≤ j) : setB f a k v j = f j := by unfold setB; rw [if_neg (by omega)]
/-- the code is the same -/
def Low (f f' : Nat → Int) : Prop := ∀ j : Nat, j < 131072 → f' j = f j
theorem Low.refl (f : Nat → Int) : Low f f := fun _ _ => rfl
theorem Low.trans {f g h : Nat → Int} (h1 : Low f g) (h2 : Low g h) : Low f h := fun j hj => (h2 j hj).trans (h1 j hj)
theorem Low.half {f f' : Nat → Int} (h : Low f f') (a : Int) : halfS f' a = halfS f a := by
  unfold halfS
  split
  · rw [getB_congr (fun j h1 h2 => h j (by omega))]
  · rfl
theorem Low.fetch {f f' : Nat → Int} (h : Low f f') (a : Int) : fetchS f' a = fetchS f a := by
  unfold fetchS hsTo hsTo hsTo
  rw [h.half, h.half]
theorem Low.setWord (f : Nat → Int) (a v : Int) : Low f (setWordS f a v).1 := fun j hj => by
  unfold setWordS
  split
  · exact setB_low (by omega)
  · rfl
theorem setWordS_yes {f : Nat → Int} {a v : Int} (h0 : 131072 ≤ a) (h1 : a % 4 = 0) (h2 : a < 262144) : setWordS f a v = (setB f a.toNat 4 v, true) := by unfold setWordS; rw [if_pos ⟨h0, h1, h2⟩]
theorem wordS_yes {f : Nat → Int} {a : Int} (h0 : 0 ≤ a) (h1 : a % 4 = 0) (h2 : a < 262144) : wordS f a = (getB f a.toNat 4, true) := by unfold wordS; rw [if_pos ⟨h0, h1, h2⟩]
theorem byteS_yes {f : Nat → Int} {a : Int} (h0 : 0 ≤ a) (h2 : a < 262144) : byteS f a = (f a.toNat, true) := by unfold byteS; rw [if_pos ⟨h0, h2⟩]
/-- a step of an instruction that does not fail -/
theorem stepS_ok {mp : Value} {c : Ch} {f : Nat → Int} {i : Ins} {n : Int} {s' : Sp} {f' : Nat → Int} (h0 : c.st = 0) (hf : fetchS f (c.R.getD 15 0) = (i, n, 0)) (hx : (c.sp mp i).exec f = (s', f')) (hfl : s'.fault = false) :
    stepS mp c f = ({ s'.c with cyc := wrap64 (s'.c.cyc + s'.cost) }, f', [⟨4, c.R.getD 15 0, s'.touch, s'.cost⟩]) := by
  unfold stepS
  rw [if_pos h0, hf]
  dsimp only
  rw [if_pos rfl, hx]
  dsimp only
  rw [if_neg (by rw [hfl]; simp)]
/-- a step of an instruction that fails -/
theorem stepS_bad {mp : Value} {c : Ch} {f : Nat → Int} {i : Ins} {n : Int} {s' : Sp} {f' : Nat → Int} (h0 : c.st = 0) (hf : fetchS f (c.R.getD 15 0) = (i, n, 0)) (hx : (c.sp mp i).exec f = (s', f')) (hfl : s'.fault = true) :
    stepS mp c f = ({ c with st := 2 }, f', []) := by
  unfold stepS
  rw [if_pos h0, hf]
  dsimp only
  rw [if_pos rfl, hx]
  dsimp only
  rw [if_pos hfl]
theorem runUp_succ (mp : Value) (c : Ch) (f : Nat → Int) (k : Nat) {c' : Ch} {f' : Nat → Int} {l l' : List Ev} {c1 : Ch} {f1 : Nat → Int} (h : runUp mp c f k = (c1, f1, l)) (hs : stepS mp c1 f1 = (c', f', l')) : runUp mp c f (k + 1) = (c', f', l ++ l') := by
  show ((stepS mp (runUp mp c f k).1 (runUp mp c f k).2.1).1, (stepS mp (runUp mp c f k).1 (runUp mp c f k).2.1).2.1, (runUp mp c f k).2.2 ++ (stepS mp (runUp mp c f k).1 (runUp mp c f k).2.1).2.2) = _
  rw [h]
  dsimp only
  rw [hs]
theorem runUp_stop (mp : Value) (c : Ch) (f : Nat → Int) (k n : Nat) (hn : k ≤ n) {l : List Ev} {c1 : Ch} {f1 : Nat → Int} (h : runUp mp c f k = (c1, f1, l)) (hs : c1.st ≠ 0) : runUp mp c f n = (c1, f1, l) := by
  have := runUp_halt (mp := mp) (c := c) (f := f) (k := k) (by rw [h]; exact hs) (n - k)
  rw [Nat.add_sub_cancel' hn] at this
  rw [this, h]
end Go.Proofs.Ytpihjhfaeloapaa
