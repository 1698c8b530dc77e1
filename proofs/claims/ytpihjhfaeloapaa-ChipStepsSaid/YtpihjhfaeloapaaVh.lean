/- MERGED by mergev.py: XCf XCg. -/
import Derived.Test.YtpihjhfaeloapaaCu
import Derived.Test.YtpihjhfaeloapaaVd
import Derived.Test.YtpihjhfaeloapaaVj
import Derived.Test.YtpihjhfaeloapaaCo
namespace Go.Proofs.Ytpihjhfaeloapaa
open Go.RowKit On Th
/-- what an instruction that may be is like -/
structure InsR (i : Ins) : Prop where
  ok : InsOk i
  op0 : 1 ≤ i.op
  op1 : i.op ≤ 45
  c0 : 0 ≤ i.cond
  c1 : i.cond ≤ 13
  far0 : -16777216 ≤ i.imm
  far1 : i.imm ≤ 16777214
  low0 : i.op ≤ 40 ∨ i.op = 44 ∨ i.op = 45 → 0 ≤ i.imm
  sh : i.op ≤ 3 → i.imm ≤ 32
  low : i.op ≤ 27 → i.imm ≤ 255
  mid : i.op ≤ 36 → i.imm ≤ 1020
  sp : i.op ≤ 38 → i.imm ≤ 1020 ∧ (37 ≤ i.op → i.imm ≤ 508)
  lst : i.op = 39 ∨ i.op = 40 → 1 ≤ i.imm ∧ i.imm ≤ 511
  svc : i.op = 44 → i.imm ≤ 255
theorem rowOf_range {op : Int} {x : Int × List Sl} (h : rowOf op = some x) : 1 ≤ op ∧ op ≤ 45 := by
  by_cases hc : 1 ≤ op ∧ op ≤ 45
  · exact hc
  · exfalso
    have e : rowOf op = none := by
      unfold rowOf
      repeat rw [if_neg (by omega)]
    rw [e] at h; cases h
set_option maxHeartbeats 8000000 in
theorem right_R {i : Ins} (h : rightS i = true) : InsR i := by
  obtain ⟨op, d, n, m, imm, cond⟩ := i
  have hop : 1 ≤ op ∧ op ≤ 45 := by
    unfold rightS at h
    by_cases e28 : op = 28
    · omega
    · by_cases e43 : op = 43
      · omega
      · rw [if_neg e28, if_neg e43] at h
        cases hr : rowOf op with
        | none => dsimp only at h; rw [hr] at h; cases h
        | some x => exact rowOf_range hr
  obtain ⟨h0, h1⟩ := hop
  have hc : op = 1 ∨ op = 2 ∨ op = 3 ∨ op = 4 ∨ op = 5 ∨ op = 6 ∨ op = 7 ∨ op = 8 ∨ op = 9 ∨ op = 10 ∨ op = 11 ∨ op = 12 ∨ op = 13 ∨ op = 14 ∨ op = 15 ∨ op = 16 ∨ op = 17 ∨ op = 18 ∨ op = 19 ∨ op = 20 ∨ op = 21 ∨ op = 22 ∨ op = 23 ∨ op = 24 ∨ op = 25 ∨ op = 26 ∨ op = 27 ∨ op = 28 ∨ op = 29 ∨ op = 30 ∨ op = 31 ∨ op = 32 ∨ op = 33 ∨ op = 34 ∨ op = 35 ∨ op = 36 ∨ op = 37 ∨ op = 38 ∨ op = 39 ∨ op = 40 ∨ op = 41 ∨ op = 42 ∨ op = 43 ∨ op = 44 ∨ op = 45 := by omega
  rcases hc with rfl | rfl | rfl | rfl | rfl | rfl | rfl | rfl | rfl | rfl | rfl | rfl | rfl | rfl | rfl | rfl | rfl | rfl | rfl | rfl | rfl | rfl | rfl | rfl | rfl | rfl | rfl | rfl | rfl | rfl | rfl | rfl | rfl | rfl | rfl | rfl | rfl | rfl | rfl | rfl | rfl | rfl | rfl | rfl | rfl
  all_goals
    simp [rightS, rowOf, rowOk, rpS, reg, im] at h
    refine ⟨⟨?_, ?_, ?_, ?_, ?_, ?_⟩, ?_, ?_, ?_, ?_, ?_, ?_, ?_, ?_, ?_, ?_, ?_, ?_, ?_⟩ <;> dsimp only <;> omega
theorem far_R (a b : Int) : InsR ⟨43, 0, 0, 0, farS a b, 0⟩ := by
  unfold farS nx
  refine ⟨⟨?_, ?_, ?_, ?_, ?_, ?_⟩, ?_, ?_, ?_, ?_, ?_, ?_, ?_, ?_, ?_, ?_, ?_, ?_, ?_⟩ <;> dsimp only <;> omega
theorem set_op (i : Ins) (k v : Int) : (i.set k v).op = i.op := by unfold Ins.set; repeat (first | rfl | split)
theorem foldl_op (h : Int) (l : List Sl) : ∀ st : Ins × Int, (l.foldl (readStep h) st).1.op = st.1.op := by
  induction l with
  | nil => intro st; rfl
  | cons s l ih => intro st; rw [List.foldl_cons, ih]; exact set_op _ _ _
theorem readUp_op (op h : Int) (l : List Sl) (q : Nat) : (readUp op h l q).1.op = op := by unfold readUp; rw [foldl_op]
theorem dec_R {hs : List Int} {i : Ins} {n : Int} (h : decS hs = (i, n, 0)) : InsR i ∧ n = (if i.op = 43 then 2 else 1) := by
  unfold decS at h
  cases hs with
  | nil => simp at h
  | cons a t =>
    dsimp only at h
    by_cases h1 : a / 2048 = 30
    · rw [if_pos h1] at h
      cases t with
      | nil => simp at h
      | cons b u =>
        dsimp only at h
        by_cases h2 : bits .and .u16 b 53248 = 53248
        · rw [if_pos h2] at h
          simp only [Prod.mk.injEq, and_true] at h
          obtain ⟨rfl, rfl⟩ := h
          exact ⟨far_R a b, rfl⟩
        · rw [if_neg h2] at h; simp at h
    · rw [if_neg h1] at h
      by_cases h2 : a / 256 = 70
      · rw [if_pos h2] at h
        by_cases h3 : rightS (movI a) = true
        · rw [if_pos h3] at h
          simp only [Prod.mk.injEq, and_true] at h
          obtain ⟨rfl, rfl⟩ := h
          exact ⟨right_R h3, rfl⟩
        · rw [if_neg h3] at h; simp at h
      · rw [if_neg h2] at h
        cases hr : rowOf (opS a) with
        | none => rw [hr] at h; simp at h
        | some x =>
          obtain ⟨b, l⟩ := x
          rw [hr] at h
          dsimp only at h
          by_cases h3 : (((readUp (opS a) a l l.length).2 == b) && rightS (readUp (opS a) a l l.length).1) = true
          · rw [if_pos h3] at h
            simp only [Prod.mk.injEq, and_true] at h
            obtain ⟨rfl, rfl⟩ := h
            simp only [Bool.and_eq_true] at h3
            refine ⟨right_R h3.2, ?_⟩
            have ho : (readUp (opS a) a l l.length).1.op = opS a := readUp_op _ _ _ _
            rw [ho, if_neg]
            intro e
            rw [e] at hr
            cases hr
          · rw [if_neg h3] at h; simp at h
def halfS (f : Nat → Int) (a : Int) : Int × Bool := if 0 ≤ a ∧ a % 2 = 0 ∧ a < 131072 then (getB f a.toNat 2, true) else (0, false)
theorem half_c (w : World) (m g : Nat) (f : Nat → Int) (a : Int) (h : Mm w 74 m g f) :
    Calls Try.prog 52 #[.pointer (some ⟨m, 0, none⟩), .int .i64 a] w fun e w' => e = .returned (.tuple #[.int .u16 (halfS f a).1, .bool (halfS f a).2]) ∧ w = w' := by
  unfold halfS
  by_cases c : 0 ≤ a ∧ a % 2 = 0 ∧ a < 131072
  · rw [if_pos c]; exact half_yes w m g f a h c.1 c.2.1 c.2.2
  · rw [if_neg c]; exact half_no w _ a (by omega)
theorem halfS_R {f : Nat → Int} (hf : ∀ i, 0 ≤ f i ∧ f i ≤ 255) (a : Int) : 0 ≤ (halfS f a).1 ∧ (halfS f a).1 < 65536 := by
  unfold halfS
  split
  · have h := getB_range hf a.toNat 2; exact ⟨h.1, by have := h.2; dsimp only; omega⟩
  · dsimp only; omega
/-- the halfwords that are fetched -/
def hsTo (f : Nat → Int) (a : Int) : Nat → List Int
  | 0 => []
  | k + 1 => hsTo f a k ++ (if (halfS f (a + 2 * k)).2 then [(halfS f (a + 2 * k)).1] else [])
theorem hsTo_R {f : Nat → Int} (hf : ∀ i, 0 ≤ f i ∧ f i ≤ 255) (a : Int) (k : Nat) : ∀ x ∈ hsTo f a k, 0 ≤ x ∧ x < 65536 := by
  induction k with
  | zero => simp [hsTo]
  | succ k ih =>
    intro x hx
    unfold hsTo at hx
    rcases List.mem_append.mp hx with h | h
    · exact ih x h
    · split at h
      · simp at h; subst h; exact halfS_R hf _
      · simp at h
theorem hsTo_len (f : Nat → Int) (a : Int) (k : Nat) : (hsTo f a k).length ≤ k := by
  induction k with
  | zero => simp [hsTo]
  | succ k ih => unfold hsTo; split <;> simp <;> omega
theorem own_hw {w : World} {base n c : Nat} {A : Option Addr} {xs : List Int} (h : w.ownsRow base 79 1 (.slice A n c) n (xs.map (Value.int .u16))) (hr : ∀ x ∈ xs, 0 ≤ x ∧ x < 65536) : Hw w (.slice A n c) xs := by
  have hn : n = xs.length := by have := h.1; simpa using this.symm
  subst hn
  refine ⟨A, c, rfl, fun k x hx => ⟨(hr x (List.mem_of_getElem? hx)).1, (hr x (List.mem_of_getElem? hx)).2, ?_⟩⟩
  have hk : k < xs.length := (List.getElem?_eq_some_iff.mp hx).1
  obtain ⟨A', c', e, ⟨_, h0, _⟩ | ⟨g, cur, rfl, hb, hg, h1, h2, h3, h4⟩⟩ := own_slice h
  · omega
  · injection e with e1 _ _
    subst e1
    refine ⟨g, 0, rfl, ?_⟩
    have : (cur.toList.take (xs.length * 1))[k]? = some (.int .u16 x) := by rw [h4, List.getElem?_map, hx]; rfl
    rw [List.getElem?_take, if_pos (by omega)] at this
    rw [hg.cell, ← Array.getElem?_toList, Nat.zero_add]
    exact this
theorem info_u16 : (Try.prog.info? 79).map (fun i => (i.zero, i.size, i.bytes)) = some (some (.int .u16 0), 1, 2) := by kernel_rfl
theorem info_parts2 {t : TypeId} {z : Value} {s b : Nat} (h : (Try.prog.info? t).map (fun i => (i.zero, i.size, i.bytes)) = some (some z, s, b)) : ∃ i, Try.prog.info? t = some i ∧ i.zero = some z ∧ i.size = s ∧ i.bytes = b := by
  cases hi : Try.prog.info? t with
  | none => rw [hi] at h; simp at h
  | some i => rw [hi] at h; simp at h; exact ⟨i, rfl, h.1, h.2.1, h.2.2⟩
/-- what a fetch gives -/
def fetchS (f : Nat → Int) (a : Int) : Ins × Int × Int := decS (hsTo f a 2)
set_option maxHeartbeats 4000000 in
set_option maxRecDepth 100000 in
theorem fetch_c (w : World) (m g : Nat) (f : Nat → Int) (a : Int) (h : Mm w 74 m g f) (ha : U a) :
    Calls Try.prog 34 #[.pointer (some ⟨m, 0, none⟩), .int .u32 a] w fun e w' => e = .returned (.tuple #[.agg #[.int .i64 (fetchS f a).1.op, .int .i64 (fetchS f a).1.d, .int .i64 (fetchS f a).1.n, .int .i64 (fetchS f a).1.m, .int .i64 (fetchS f a).1.imm, .int .i64 (fetchS f a).1.cond], .int .i64 (fetchS f a).2.2]) ∧ Below w.heap.size w w' := by
  obtain ⟨i0, hi0, hz0, hz1, hz2⟩ := info_parts2 info_u16
  have HFR : Hid (∀ i, 0 ≤ f i ∧ f i ≤ 255) := fun i => h.2.range i
  have HM := Lib.hid h
  obtain ⟨a0, a1⟩ := ha
  have HR : Hid (Blk (w.alloc (.cells #[.int .i64 0, .int .i64 0, .int .i64 0, .int .i64 0, .int .i64 0, .int .i64 0] 36)) w.heap.size 36 #[.int .i64 0, .int .i64 0, .int .i64 0, .int .i64 0, .int .i64 0, .int .i64 0]) := Blk.new _ _ _
  have HB0 : Hid (Below w.heap.size w (w.alloc (.cells #[.int .i64 0, .int .i64 0, .int .i64 0, .int .i64 0, .int .i64 0, .int .i64 0] 36))) := (Below.refl _ _).alloc (Nat.le_refl _) _
  clear h
  go_enter Try.func34, Try.ntmps34
  go_wp2_with fail
  go_loopw [6, 13] (fun s6 s13 wx => ∃ (k : Nat) (A : Option Addr) (c n : Nat), k ≤ 2 ∧ s13 = .int .i64 k ∧ s6 = .slice A n c ∧ n = (hsTo f a k).length ∧ wx.ownsRow (w.heap.size + 1) 79 1 (.slice A n c) n ((hsTo f a k).map (Value.int .u16)) ∧ Blk wx w.heap.size 36 #[.int .i64 0, .int .i64 0, .int .i64 0, .int .i64 0, .int .i64 0, .int .i64 0] ∧ Below w.heap.size w wx) (fun _ i _ => 2 - (intOf i).toNat)
  case atStart => exact ⟨0, none, 0, 0, by omega, rfl, rfl, rfl, World.ownsRow_nil _ _ _ _, HR.out, HB0.out⟩
  case round =>
    obtain ⟨k, A, c, n, hk, rfl, rfl, hn, ho, hr, hb⟩ := hrel
    have HO := Lib.hid ho; have HB := Lib.hid hb; have HRX := Lib.hid hr; have HN := Lib.hid hn
    have HMX : Hid (Mm wr 74 m g f) := by
      obtain ⟨hb1, hb2⟩ := HM.out
      exact ⟨hb1.only (S := fun _ => False) (Only.of_below hb) id, hb2.only (S := fun _ => False) (Only.of_below hb) id⟩
    have hsw : w.heap.size + 1 ≤ wr.heap.size := hr.lt
    have hl := hsTo_len f a k
    rw [← hn] at hl
    have HHT : Hid (hsTo f a (k + 1) = hsTo f a k ++ (if (halfS f (a + 2 * k)).2 then [(halfS f (a + 2 * k)).1] else [])) := rfl
    clear ho hb hr hn HR HB0
    by_cases hlt : k < 2
    · have HH := Lib.hid (half_c wr m g f (a + 2 * k) HMX.out)
      have HHR := Lib.hid (halfS_R HFR.out (a + 2 * k))
      generalize halfS f (a + 2 * k) = ho at *
      obtain ⟨x, ok⟩ := ho
      dsimp only at HH HHT HHR
      obtain ⟨x0, x1⟩ := HHR.out
      go_wp2_with fail
      refine (HH.out).mono ?_
      rintro e w' ⟨rfl, rfl⟩
      cases ok
      · rw [if_neg Bool.false_ne_true, List.append_nil] at HHT
        go_wp2_with fail
        go_roundw
        case rel => exact ⟨k + 1, A, c, n, by omega, by go_num, rfl, by rw [HHT.out]; exact HN.out, by rw [HHT.out]; exact HO.out, HRX.out, HB.out⟩
        case measure => simp [intOf]; omega
      · rw [if_pos rfl] at HHT
        generalize hsTo f a k = l at *
        go_wp2_with (at_builtin; go_loud (refine wpList_append_at _ rfl (.tmp 27) (.tmp 29) _ rfl (w.heap.size + 1) 79 i0 _ 1 2 Try.underlying24 hi0 hz0 hz1 hz2 rfl (by omega) _ n (l.map (Value.int .u16)) rfl (own_only HO.out ((Only.refl (fun _ => False) wr).alloc _) (fun _ _ => id)) (some ⟨wr.heap.size, 0, none⟩) 1 1 _ rfl (Src.block wr 79 1 [.int .u16 x] rfl (by simp [Value.oneCell']) (0, 0)) (by simp) (by unfold maxLen; omega) (by omega) (by simp; omega) ?_))
        intro A5 c5 w5 hown5 hg5 hn5
        have hO5 := ((Only.refl (fun j => w.heap.size + 1 ≤ j) wr).alloc (.cells #[.int .u16 x] 79)).grown hg5 (fun j hj => .inl (HO.out.lt j hj).1)
        have HB5 : Hid (Below w.heap.size w w5) := HB.out.trans (hO5.below HB.out.size (fun j h => Nat.le_of_succ_le h))
        have HR5 := Lib.hid (HRX.out.only hO5 (by omega))
        have HO5 : Hid (w5.ownsRow (w.heap.size + 1) 79 1 (.slice A5 (n + 1) c5) (n + 1) ((l ++ [x]).map (Value.int .u16))) := by
          show World.ownsRow _ _ _ _ _ _ _
          rw [List.map_append]; exact hown5
        clear hown5 hg5 hn5 hO5
        go_wp2_with fail
        go_roundw
        case rel => exact ⟨k + 1, A5, c5, n + 1, by omega, by go_num, rfl, by rw [HHT.out, List.length_append, ← HN.out]; rfl, by rw [HHT.out]; exact HO5.out, HR5.out, HB5.out⟩
        case measure => simp [intOf]; omega
    · have hk2 : k = 2 := by omega
      subst hk2
      have HD := Lib.hid (decode_c (own_hw HO.out (hsTo_R HFR.out a 2)))
      have HFS : Hid (fetchS f a = decS (hsTo f a 2)) := rfl
      clear HHT
      generalize decS (hsTo f a 2) = r at *
      obtain ⟨⟨op, d, nn, mm, imm, cond⟩, cnt, er⟩ := r
      unfold DecAt at HD
      dsimp only at HD
      have r0 := HRX.out.cell 0
      have r1 := HRX.out.cell 1
      have r2 := HRX.out.cell 2
      have r3 := HRX.out.cell 3
      have r4 := HRX.out.cell 4
      have r5 := HRX.out.cell 5
      simp at r0 r1 r2 r3 r4 r5
      go_wp2_with fail
      refine (HD.out).mono ?_
      rintro e w2 ⟨rfl, hb2⟩
      have HR2 := Lib.hid (HRX.out.only (S := fun _ => False) (Only.of_below hb2) id)
      have HB2 := Lib.hid (HB.out.trans (hb2.mono HB.out.size))
      have hlt2 := HR2.out.lt
      obtain ⟨wz, hwz⟩ : ∃ wz, wz = w2.alloc (.cells #[.int .i64 op, .int .i64 d, .int .i64 nn, .int .i64 mm, .int .i64 imm, .int .i64 cond] 36) := ⟨_, rfl⟩
      obtain ⟨X, hX⟩ : ∃ X, X = w2.heap.size := ⟨_, rfl⟩
      have KX : Hid (Blk wz X 36 #[.int .i64 op, .int .i64 d, .int .i64 nn, .int .i64 mm, .int .i64 imm, .int .i64 cond]) := by rw [hwz, hX]; exact Blk.new _ _ _
      have HRZ : Hid (Blk wz w.heap.size 36 #[.int .i64 0, .int .i64 0, .int .i64 0, .int .i64 0, .int .i64 0, .int .i64 0]) := by rw [hwz]; exact HR2.out.alloc _
      have HBZ : Hid (Below w.heap.size w wz) := by rw [hwz]; exact HB2.out.alloc HB2.out.size _
      clear hb2 r0 r1 r2 r3 r4 r5 HRX HB HR2 HB2 HO HD
      go_upto_region 10 with (fail)
      rw [← hwz, ← hX]
      clear hwz hX hlt2
      have x0 := KX.out.cell 0
      have x1 := KX.out.cell 1
      have x2 := KX.out.cell 2
      have x3 := KX.out.cell 3
      have x4 := KX.out.cell 4
      have x5 := KX.out.cell 5
      simp at x0 x1 x2 x3 x4 x5
      have r0 := HRZ.out.cell 0
      have r1 := HRZ.out.cell 1
      have r2 := HRZ.out.cell 2
      have r3 := HRZ.out.cell 3
      have r4 := HRZ.out.cell 4
      have r5 := HRZ.out.cell 5
      simp at r0 r1 r2 r3 r4 r5
      have z0 := HRZ.out.frozen 0
      have z1 := HRZ.out.frozen 1
      have z2 := HRZ.out.frozen 2
      have z3 := HRZ.out.frozen 3
      have z4 := HRZ.out.frozen 4
      have z5 := HRZ.out.frozen 5
      obtain ⟨N, hN⟩ : ∃ N, N = w.heap.size := ⟨_, rfl⟩
      have KE : Blk ((((((wz.setCell ⟨w.heap.size, 0, none⟩ (.int .i64 op)).setCell ⟨w.heap.size, 1, none⟩ (.int .i64 d)).setCell ⟨w.heap.size, 2, none⟩ (.int .i64 nn)).setCell ⟨w.heap.size, 3, none⟩ (.int .i64 mm)).setCell ⟨w.heap.size, 4, none⟩ (.int .i64 imm)).setCell ⟨w.heap.size, 5, none⟩ (.int .i64 cond)) w.heap.size 36 #[.int .i64 op, .int .i64 d, .int .i64 nn, .int .i64 mm, .int .i64 imm, .int .i64 cond] := ((((((HRZ.out.set 0 _).set 1 _).set 2 _).set 3 _).set 4 _).set 5 _)
      have ke := Blk.six KE
      have HE := Lib.hid ((((((HBZ.out.setCell (p := ⟨w.heap.size, 0, none⟩) (Nat.le_refl _) (.int .i64 op)).setCell (p := ⟨w.heap.size, 1, none⟩) (Nat.le_refl _) (.int .i64 d)).setCell (p := ⟨w.heap.size, 2, none⟩) (Nat.le_refl _) (.int .i64 nn)).setCell (p := ⟨w.heap.size, 3, none⟩) (Nat.le_refl _) (.int .i64 mm)).setCell (p := ⟨w.heap.size, 4, none⟩) (Nat.le_refl _) (.int .i64 imm)).setCell (p := ⟨w.heap.size, 5, none⟩) (Nat.le_refl _) (.int .i64 cond))
      clear KE hN
      go_wp2_with fail
      refine bodyPost_ret (v := .tuple #[.agg #[.int .i64 op, .int .i64 d, .int .i64 nn, .int .i64 mm, .int .i64 imm, .int .i64 cond], .int .i64 er]) (by rw [results_cell_tmp rfl]; go_simp) rfl ?_
      rw [HFS.out]
      exact ⟨rfl, HE.out⟩
end Go.Proofs.Ytpihjhfaeloapaa
namespace Go.Proofs.Ytpihjhfaeloapaa
open Go.RowKit On Th
def Sp.branch (s : Sp) (cost : Int) : Sp := { s.setR 15 ((s.at_ + 4 + s.i.imm) % 4294967296) with cost := cost }
def OtherPost (p m g : Nat) (s : Sp) (f : Nat → Int) (w : World) (e : Ending) (w' : World) : Prop := e = .returned (.tuple #[]) ∧ SpW w' p s ∧ MW w' m g f ∧ Only (fun k => k = p ∨ k = g) w w'
theorem OtherPost.of {p m g : Nat} {s : Sp} {f : Nat → Int} {w w' : World} (hap : p ≠ m ∧ p ≠ g) (hm : MW w m g f) (h : SpW w' p s) (hO : Only (fun k => k = p) w w') : OtherPost p m g s f w (.returned (.tuple #[])) w' :=
  ⟨rfl, h, hm.only hO (fun e => hap.1 e.symm) (fun e => hap.2 e.symm), hO.mono (fun _ _ e => .inl e)⟩
set_option maxHeartbeats 4000000 in
set_option maxRecDepth 100000 in
theorem other_37 (w : World) (p m g : Nat) (s : Sp) (f : Nat → Int) (h : SpW w p s) (hm : MW w m g f) (hop : s.i.op = 37) (hk0 : 0 ≤ s.i.imm) (hk1 : s.i.imm ≤ 508) :
    Calls Try.prog 39 #[.pointer (some ⟨p, 0, none⟩)] w (OtherPost p m g (s.setR 13 ((s.c.R.getD 13 0 + s.i.imm) % 4294967296)) f w) := by
  have hap := h.apart hm
  obtain ⟨r23, r1, r2, r3, r4, r5, r6, r7, _⟩ := h.rest
  rw [hop] at r1
  have H := Lib.hid h; have HM := Lib.hid hm
  have q13 := h.reg (k := 13) (by omega)
  have z13 := h.frozen 13
  have HU := Lib.hid (h.2.reg (k := 13) (by omega))
  generalize s.c.R.getD 13 0 = r13 at *
  generalize s.i.imm = imm at *
  obtain ⟨u1, u2⟩ := HU.out
  clear h hm
  go_enter Try.func39, Try.ntmps39
  go_wp2_with fail
  go_region
  go_wp2_with fail
  go_end0
  exact OtherPost.of hap HM.out ((H.out.setReg (k := 13) (by omega) (by unfold U; omega)).only (S := fun _ => False) ((Only.refl _ _).drew) id) ((Only.refl (fun j => j = p) w).setCell (p := ⟨p, 13, none⟩) (.inl rfl) _).drew
set_option maxHeartbeats 4000000 in
set_option maxRecDepth 100000 in
theorem other_38 (w : World) (p m g : Nat) (s : Sp) (f : Nat → Int) (h : SpW w p s) (hm : MW w m g f) (hop : s.i.op = 38) (hk0 : 0 ≤ s.i.imm) (hk1 : s.i.imm ≤ 508) :
    Calls Try.prog 39 #[.pointer (some ⟨p, 0, none⟩)] w (OtherPost p m g (s.setR 13 ((s.c.R.getD 13 0 - s.i.imm) % 4294967296)) f w) := by
  have hap := h.apart hm
  obtain ⟨r23, r1, r2, r3, r4, r5, r6, r7, _⟩ := h.rest
  rw [hop] at r1
  have H := Lib.hid h; have HM := Lib.hid hm
  have q13 := h.reg (k := 13) (by omega)
  have z13 := h.frozen 13
  have HU := Lib.hid (h.2.reg (k := 13) (by omega))
  generalize s.c.R.getD 13 0 = r13 at *
  generalize s.i.imm = imm at *
  obtain ⟨u1, u2⟩ := HU.out
  clear h hm
  go_enter Try.func39, Try.ntmps39
  go_wp2_with fail
  go_region
  go_wp2_with fail
  go_end0
  exact OtherPost.of hap HM.out ((H.out.setReg (k := 13) (by omega) (by unfold U; omega)).only (S := fun _ => False) ((Only.refl _ _).drew) id) ((Only.refl (fun j => j = p) w).setCell (p := ⟨p, 13, none⟩) (.inl rfl) _).drew
set_option maxHeartbeats 4000000 in
set_option maxRecDepth 100000 in
theorem other_39 (w : World) (p m g : Nat) (s : Sp) (f : Nat → Int) (h : SpW w p s) (hm : MW w m g f) (hop : s.i.op = 39) (hsm : s.m = .pointer (some ⟨m, 0, none⟩)) (hk0 : 0 ≤ s.i.imm) (hk1 : s.i.imm ≤ 511) (hft : s.fault = false) :
    Calls Try.prog 39 #[.pointer (some ⟨p, 0, none⟩)] w (OtherPost p m g s.push (pushF s f) w) := by
  have hap := h.apart hm
  obtain ⟨r23, r1, r2, r3, r4, r5, r6, r7, _⟩ := h.rest
  rw [hop] at r1
  have H := Lib.hid h; have HM := Lib.hid hm
  have HC := Lib.hid (push_c w p m g s f h hm hsm hk0 hk1 hft)
  clear h hm
  go_enter Try.func39, Try.ntmps39
  go_wp2_with fail
  refine (HC.out).mono ?_
  rintro e w1 ⟨rfl, h1, h2, h3⟩
  have H1 := Lib.hid h1; have H2 := Lib.hid h2; have H3 := Lib.hid h3
  clear h1 h2 h3
  go_wp2_with fail
  go_end0
  exact ⟨rfl, H1.out, H2.out, H3.out⟩
set_option maxHeartbeats 4000000 in
set_option maxRecDepth 100000 in
theorem other_40 (w : World) (p m g : Nat) (s : Sp) (f : Nat → Int) (h : SpW w p s) (hm : MW w m g f) (hop : s.i.op = 40) (hsm : s.m = .pointer (some ⟨m, 0, none⟩)) (hk0 : 0 ≤ s.i.imm) (hk1 : s.i.imm ≤ 511) :
    Calls Try.prog 39 #[.pointer (some ⟨p, 0, none⟩)] w (OtherPost p m g (s.pop f) f w) := by
  have hap := h.apart hm
  obtain ⟨r23, r1, r2, r3, r4, r5, r6, r7, _⟩ := h.rest
  rw [hop] at r1
  have H := Lib.hid h; have HM := Lib.hid hm
  have HC := Lib.hid (pop_c w p m g s f h hm hsm hk0 hk1)
  clear h hm
  go_enter Try.func39, Try.ntmps39
  go_wp2_with fail
  refine (HC.out).mono ?_
  rintro e w1 ⟨rfl, h1, h2, h3⟩
  have H1 := Lib.hid h1; have H2 := Lib.hid h2; have H3 := Lib.hid h3
  clear h1 h2 h3
  go_wp2_with fail
  go_end0
  exact ⟨rfl, H1.out, H2.out, H3.out⟩
set_option maxHeartbeats 4000000 in
set_option maxRecDepth 100000 in
theorem other_41n (w : World) (p m g : Nat) (s : Sp) (f : Nat → Int) (h : SpW w p s) (hm : MW w m g f) (hop : s.i.op = 41) (ha0 : 0 ≤ s.at_) (ha1 : s.at_ < 131072) (hc0 : 0 ≤ s.i.cond) (hc1 : s.i.cond ≤ 13) (hb : s.c.holds s.i.cond = false) :
    Calls Try.prog 39 #[.pointer (some ⟨p, 0, none⟩)] w (OtherPost p m g s f w) := by
  have hap := h.apart hm
  obtain ⟨r23, r1, r2, r3, r4, r5, r6, r7, _⟩ := h.rest
  rw [hop] at r1
  have H := Lib.hid h; have HM := Lib.hid hm
  have HC := Lib.hid (holds_c w p s h s.i.cond hc0 hc1)
  have HBR := Lib.hid (fun (wq : World) (g' : SpW wq p s) => branch_c wq p s g' 3 ha0 ha1)
  rw [hb] at HC
  clear hb
  generalize s.i.cond = cond at *
  clear h hm
  go_enter Try.func39, Try.ntmps39
  go_wp2_with fail
  refine (HC.out).mono ?_
  rintro e w1 ⟨rfl, q, rfl⟩
  have H1 : Hid (SpW (w.drewN q) p s) := H.out.only (S := fun _ => False) ((Only.refl _ _).drewN _) id
  have HO1 : Hid (Only (fun k => k = p) w (w.drewN q)) := (Only.refl _ _).drewN _
  go_wp2_with fail
  go_end0
  exact OtherPost.of hap HM.out H1.out HO1.out
set_option maxHeartbeats 4000000 in
set_option maxRecDepth 100000 in
theorem other_41y (w : World) (p m g : Nat) (s : Sp) (f : Nat → Int) (h : SpW w p s) (hm : MW w m g f) (hop : s.i.op = 41) (ha0 : 0 ≤ s.at_) (ha1 : s.at_ < 131072) (hc0 : 0 ≤ s.i.cond) (hc1 : s.i.cond ≤ 13) (hb : s.c.holds s.i.cond = true) :
    Calls Try.prog 39 #[.pointer (some ⟨p, 0, none⟩)] w (OtherPost p m g (s.branch 3) f w) := by
  have hap := h.apart hm
  obtain ⟨r23, r1, r2, r3, r4, r5, r6, r7, _⟩ := h.rest
  rw [hop] at r1
  have H := Lib.hid h; have HM := Lib.hid hm
  have HC := Lib.hid (holds_c w p s h s.i.cond hc0 hc1)
  have HBR := Lib.hid (fun (wq : World) (g' : SpW wq p s) => branch_c wq p s g' 3 ha0 ha1)
  rw [hb] at HC
  clear hb
  generalize s.i.cond = cond at *
  clear h hm
  go_enter Try.func39, Try.ntmps39
  go_wp2_with fail
  refine (HC.out).mono ?_
  rintro e w1 ⟨rfl, q, rfl⟩
  have H1 : Hid (SpW (w.drewN q) p s) := H.out.only (S := fun _ => False) ((Only.refl _ _).drewN _) id
  have HO1 : Hid (Only (fun k => k = p) w (w.drewN q)) := (Only.refl _ _).drewN _
  go_wp2_with fail
  refine (HBR.out _ H1.out).mono ?_
  rintro e w2 ⟨rfl, h2, o2⟩
  have H2 := Lib.hid h2; have O2 := Lib.hid (HO1.out.trans o2 (fun _ _ e => e))
  clear h2 o2
  go_wp2_with fail
  go_end0
  exact OtherPost.of hap HM.out H2.out O2.out
set_option maxHeartbeats 4000000 in
set_option maxRecDepth 100000 in
theorem other_42 (w : World) (p m g : Nat) (s : Sp) (f : Nat → Int) (h : SpW w p s) (hm : MW w m g f) (hop : s.i.op = 42) (ha0 : 0 ≤ s.at_) (ha1 : s.at_ < 131072) :
    Calls Try.prog 39 #[.pointer (some ⟨p, 0, none⟩)] w (OtherPost p m g (s.branch 3) f w) := by
  have hap := h.apart hm
  obtain ⟨r23, r1, r2, r3, r4, r5, r6, r7, _⟩ := h.rest
  rw [hop] at r1
  have H := Lib.hid h; have HM := Lib.hid hm
  have HBR := Lib.hid (fun (wq : World) (g' : SpW wq p s) => branch_c wq p s g' 3 ha0 ha1)
  clear h hm
  go_enter Try.func39, Try.ntmps39
  go_wp2_with fail
  refine (HBR.out _ H.out).mono ?_
  rintro e w2 ⟨rfl, h2, o2⟩
  have H2 := Lib.hid h2; have O2 := Lib.hid o2
  clear h2 o2
  go_wp2_with fail
  go_end0
  exact OtherPost.of hap HM.out H2.out O2.out
set_option maxHeartbeats 4000000 in
set_option maxRecDepth 100000 in
theorem other_43 (w : World) (p m g : Nat) (s : Sp) (f : Nat → Int) (h : SpW w p s) (hm : MW w m g f) (hop : s.i.op = 43) (ha0 : 0 ≤ s.at_) (ha1 : s.at_ < 131072) :
    Calls Try.prog 39 #[.pointer (some ⟨p, 0, none⟩)] w (OtherPost p m g ((s.setR 14 (bits .or .u32 (s.at_ + 4) 1)).branch 4) f w) := by
  have hap := h.apart hm
  obtain ⟨r23, r1, r2, r3, r4, r5, r6, r7, _⟩ := h.rest
  rw [hop] at r1
  have H := Lib.hid h; have HM := Lib.hid hm
  have HBR := Lib.hid (fun (wq : World) (g' : SpW wq p (s.setR 14 (bits .or .u32 (s.at_ + 4) 1))) => branch_c wq p _ g' 4 ha0 ha1)
  have HOU : Hid (U (bits .or .u32 (s.at_ + 4) 1)) := or_U (by unfold U; omega) (by unfold U; omega)
  have q14 := h.reg (k := 14) (by omega)
  have z14 := h.frozen 14
  generalize s.c.R.getD 14 0 = r14 at *
  have hat : s.at_ + 4 < 4294967296 := by omega
  clear h hm
  go_enter Try.func39, Try.ntmps39
  go_wp2_with fail
  go_region
  obtain ⟨wq, hwq⟩ : ∃ wq, wq = (w.setCell ⟨p, 14, none⟩ (.int .u32 (bits .or .u32 (s.at_ + 4) 1))).drew := ⟨_, rfl⟩
  have HQ : Hid (SpW wq p (s.setR 14 (bits .or .u32 (s.at_ + 4) 1))) := by rw [hwq]; exact (H.out.setReg (k := 14) (by omega) HOU.out).only (S := fun _ => False) ((Only.refl _ _).drew) id
  have HOQ : Hid (Only (fun k => k = p) w wq) := by rw [hwq]; exact ((Only.refl (fun k => k = p) w).setCell (p := ⟨p, 14, none⟩) (.inl rfl) _).drew
  try rw [← hwq]
  clear hwq
  go_wp2_with fail
  refine (HBR.out _ HQ.out).mono ?_
  rintro e w2 ⟨rfl, h2, o2⟩
  have H2 := Lib.hid h2; have O2 := Lib.hid (HOQ.out.trans o2 (fun _ _ e => e))
  clear h2 o2
  go_wp2_with fail
  go_end0
  exact OtherPost.of hap HM.out H2.out O2.out
set_option maxHeartbeats 4000000 in
set_option maxRecDepth 100000 in
theorem other_44 (w : World) (p m g : Nat) (s : Sp) (f : Nat → Int) (h : SpW w p s) (hm : MW w m g f) (hop : s.i.op = 44)  :
    Calls Try.prog 39 #[.pointer (some ⟨p, 0, none⟩)] w (OtherPost p m g { s with c := { s.c with st := 1, num := s.i.imm } } f w) := by
  have hap := h.apart hm
  obtain ⟨r23, r1, r2, r3, r4, r5, r6, r7, _⟩ := h.rest
  rw [hop] at r1
  have H := Lib.hid h; have HM := Lib.hid hm
  have z20 := h.frozen 20
  have z21 := h.frozen 21
  obtain ⟨_, _, _, _, q20, q21, _⟩ := h.flags
  clear h hm
  go_enter Try.func39, Try.ntmps39
  go_wp2_with fail
  go_end0
  exact OtherPost.of hap HM.out ((H.out.setSt 1).setNum s.i.imm) (((Only.refl (fun k => k = p) w).setCell (p := ⟨p, 20, none⟩) (.inl rfl) _).setCell (p := ⟨p, 21, none⟩) (.inl rfl) _)
set_option maxHeartbeats 4000000 in
set_option maxRecDepth 100000 in
theorem other_no (w : World) (p m g : Nat) (s : Sp) (f : Nat → Int) (h : SpW w p s) (hm : MW w m g f)  (e37 : s.i.op ≠ 37) (e38 : s.i.op ≠ 38) (e39 : s.i.op ≠ 39) (e40 : s.i.op ≠ 40) (e41 : s.i.op ≠ 41) (e42 : s.i.op ≠ 42) (e43 : s.i.op ≠ 43) (e44 : s.i.op ≠ 44) :
    Calls Try.prog 39 #[.pointer (some ⟨p, 0, none⟩)] w (OtherPost p m g s f w) := by
  have hap := h.apart hm
  obtain ⟨r23, r1, r2, r3, r4, r5, r6, r7, _⟩ := h.rest
  have H := Lib.hid h; have HM := Lib.hid hm
  have t37 : (s.i.op == 37) = false := by simp [e37]
  have t38 : (s.i.op == 38) = false := by simp [e38]
  have t39 : (s.i.op == 39) = false := by simp [e39]
  have t40 : (s.i.op == 40) = false := by simp [e40]
  have t41 : (s.i.op == 41) = false := by simp [e41]
  have t42 : (s.i.op == 42) = false := by simp [e42]
  have t43 : (s.i.op == 43) = false := by simp [e43]
  have t44 : (s.i.op == 44) = false := by simp [e44]
  generalize s.i.op = op at *
  clear e37 e38 e39 e40 e41 e42 e43 e44
  clear h hm
  go_enter Try.func39, Try.ntmps39
  go_wp2_with fail
  go_end0
  exact OtherPost.of hap HM.out H.out (Only.refl _ _)
end Go.Proofs.Ytpihjhfaeloapaa
namespace Go.Proofs.Ytpihjhfaeloapaa
open Go.RowKit On Th
def Sp.bitw (s : Sp) : Option Sp :=
  if s.i.op = 8 then some ((s.sign s.i.imm).setR s.i.d.toNat s.i.imm)
  else if s.i.op = 1 then some (s.shifted 1 s.rm s.i.imm s.i.d.toNat)
  else if s.i.op = 2 then some (s.shifted 2 s.rm s.i.imm s.i.d.toNat)
  else if s.i.op = 3 then some (s.shifted 3 s.rm s.i.imm s.i.d.toNat)
  else if s.i.op = 14 then some (s.shifted 14 s.rd (s.rm % 256) s.i.d.toNat)
  else if s.i.op = 15 then some (s.shifted 15 s.rd (s.rm % 256) s.i.d.toNat)
  else if s.i.op = 16 then some (s.shifted 16 s.rd (s.rm % 256) s.i.d.toNat)
  else if s.i.op = 19 then some (s.shifted 19 s.rd (s.rm % 256) s.i.d.toNat)
  else if s.i.op = 12 then some ((s.sign (bits .and .u32 s.rd s.rm)).setR s.i.d.toNat (bits .and .u32 s.rd s.rm))
  else if s.i.op = 13 then some ((s.sign (bits .xor .u32 s.rd s.rm)).setR s.i.d.toNat (bits .xor .u32 s.rd s.rm))
  else if s.i.op = 20 then some (s.sign (bits .and .u32 s.rd s.rm))
  else if s.i.op = 24 then some ((s.sign (bits .or .u32 s.rd s.rm)).setR s.i.d.toNat (bits .or .u32 s.rd s.rm))
  else if s.i.op = 25 then some ((s.sign (s.rd * s.rm % 4294967296)).setR s.i.d.toNat (s.rd * s.rm % 4294967296))
  else if s.i.op = 26 then some ((s.sign (bits .andNot .u32 s.rd s.rm)).setR s.i.d.toNat (bits .andNot .u32 s.rd s.rm))
  else if s.i.op = 27 then some ((s.sign (4294967295 - s.rm)).setR s.i.d.toNat (4294967295 - s.rm))
  else if s.i.op = 28 then some (s.setR s.i.d.toNat s.rm)
  else none
def Sp.memS (s : Sp) (f : Nat → Int) : Option (Sp × (Nat → Int)) :=
  if s.i.op = 29 then some ((s.setR s.i.d.toNat (wordS f s.addr).1).memEnd s.addr (wordS f s.addr).2, f)
  else if s.i.op = 31 then some ((s.setR s.i.d.toNat (wordS f s.addr).1).memEnd s.addr (wordS f s.addr).2, f)
  else if s.i.op = 35 then some ((s.setR s.i.d.toNat (wordS f s.addr).1).memEnd s.addr (wordS f s.addr).2, f)
  else if s.i.op = 33 then some ((s.setR s.i.d.toNat (byteS f s.addr).1).memEnd s.addr (byteS f s.addr).2, f)
  else if s.i.op = 30 then some (s.memEnd s.addr (setWordS f s.addr s.rd).2, (setWordS f s.addr s.rd).1)
  else if s.i.op = 32 then some (s.memEnd s.addr (setWordS f s.addr s.rd).2, (setWordS f s.addr s.rd).1)
  else if s.i.op = 36 then some (s.memEnd s.addr (setWordS f s.addr s.rd).2, (setWordS f s.addr s.rd).1)
  else if s.i.op = 34 then some (s.memEnd s.addr (setByteS f s.addr (s.rd % 256)).2, (setByteS f s.addr (s.rd % 256)).1)
  else none
def Sp.otherS (s : Sp) (f : Nat → Int) : Sp × (Nat → Int) :=
  if s.i.op = 37 then (s.setR 13 ((s.c.R.getD 13 0 + s.i.imm) % 4294967296), f)
  else if s.i.op = 38 then (s.setR 13 ((s.c.R.getD 13 0 - s.i.imm) % 4294967296), f)
  else if s.i.op = 39 then (s.push, pushF s f)
  else if s.i.op = 40 then (s.pop f, f)
  else if s.i.op = 41 then (if s.c.holds s.i.cond then s.branch 3 else s, f)
  else if s.i.op = 42 then (s.branch 3, f)
  else if s.i.op = 43 then ((s.setR 14 (bits .or .u32 (s.at_ + 4) 1)).branch 4, f)
  else if s.i.op = 44 then ({ s with c := { s.c with st := 1, num := s.i.imm } }, f)
  else (s, f)
theorem sums2_c (w : World) (p : Nat) (s : Sp) (h : SpW w p s) (hi : InsR s.i) :
    Calls Try.prog 36 #[.pointer (some ⟨p, 0, none⟩)] w fun e w' => e = .returned (.bool s.sums.isSome) ∧ SpW w' p (s.sums.getD s) ∧ Only (fun k => k = p) w w' := by
  by_cases e4 : s.i.op = 4
  · have hs : s.sums = some ((s.sum s.rn s.rm false).setR s.i.d.toNat (sumX s.rn s.rm false)) := by unfold Sp.sums; simp only [e4]; rfl
    rw [hs]
    exact sums_4 w p s h hi.ok e4 (hi.low0 (by omega)) (hi.low (by omega))
  by_cases e5 : s.i.op = 5
  · have hs : s.sums = some ((s.sum s.rn (4294967295 - s.rm) true).setR s.i.d.toNat (sumX s.rn (4294967295 - s.rm) true)) := by unfold Sp.sums; simp only [e5]; rfl
    rw [hs]
    exact sums_5 w p s h hi.ok e5 (hi.low0 (by omega)) (hi.low (by omega))
  by_cases e6 : s.i.op = 6
  · have hs : s.sums = some ((s.sum s.rn s.i.imm false).setR s.i.d.toNat (sumX s.rn s.i.imm false)) := by unfold Sp.sums; simp only [e6]; rfl
    rw [hs]
    exact sums_6 w p s h hi.ok e6 (hi.low0 (by omega)) (hi.low (by omega))
  by_cases e7 : s.i.op = 7
  · have hs : s.sums = some ((s.sum s.rn (4294967295 - s.i.imm) true).setR s.i.d.toNat (sumX s.rn (4294967295 - s.i.imm) true)) := by unfold Sp.sums; simp only [e7]; rfl
    rw [hs]
    exact sums_7 w p s h hi.ok e7 (hi.low0 (by omega)) (hi.low (by omega))
  by_cases e9 : s.i.op = 9
  · have hs : s.sums = some (s.sum s.rd (4294967295 - s.i.imm) true) := by unfold Sp.sums; simp only [e9]; rfl
    rw [hs]
    exact sums_9 w p s h hi.ok e9 (hi.low0 (by omega)) (hi.low (by omega))
  by_cases e10 : s.i.op = 10
  · have hs : s.sums = some ((s.sum s.rd s.i.imm false).setR s.i.d.toNat (sumX s.rd s.i.imm false)) := by unfold Sp.sums; simp only [e10]; rfl
    rw [hs]
    exact sums_10 w p s h hi.ok e10 (hi.low0 (by omega)) (hi.low (by omega))
  by_cases e11 : s.i.op = 11
  · have hs : s.sums = some ((s.sum s.rd (4294967295 - s.i.imm) true).setR s.i.d.toNat (sumX s.rd (4294967295 - s.i.imm) true)) := by unfold Sp.sums; simp only [e11]; rfl
    rw [hs]
    exact sums_11 w p s h hi.ok e11 (hi.low0 (by omega)) (hi.low (by omega))
  by_cases e17 : s.i.op = 17
  · have hs : s.sums = some ((s.sum s.rd s.rm s.c.cf).setR s.i.d.toNat (sumX s.rd s.rm s.c.cf)) := by unfold Sp.sums; simp only [e17]; rfl
    rw [hs]
    exact sums_17 w p s h hi.ok e17 (hi.low0 (by omega)) (hi.low (by omega))
  by_cases e18 : s.i.op = 18
  · have hs : s.sums = some ((s.sum s.rd (4294967295 - s.rm) s.c.cf).setR s.i.d.toNat (sumX s.rd (4294967295 - s.rm) s.c.cf)) := by unfold Sp.sums; simp only [e18]; rfl
    rw [hs]
    exact sums_18 w p s h hi.ok e18 (hi.low0 (by omega)) (hi.low (by omega))
  by_cases e21 : s.i.op = 21
  · have hs : s.sums = some ((s.sum 0 (4294967295 - s.rm) true).setR s.i.d.toNat (sumX 0 (4294967295 - s.rm) true)) := by unfold Sp.sums; simp only [e21]; rfl
    rw [hs]
    exact sums_21 w p s h hi.ok e21 (hi.low0 (by omega)) (hi.low (by omega))
  by_cases e22 : s.i.op = 22
  · have hs : s.sums = some (s.sum s.rd (4294967295 - s.rm) true) := by unfold Sp.sums; simp only [e22]; rfl
    rw [hs]
    exact sums_22 w p s h hi.ok e22 (hi.low0 (by omega)) (hi.low (by omega))
  by_cases e23 : s.i.op = 23
  · have hs : s.sums = some (s.sum s.rd s.rm false) := by unfold Sp.sums; simp only [e23]; rfl
    rw [hs]
    exact sums_23 w p s h hi.ok e23 (hi.low0 (by omega)) (hi.low (by omega))
  have hs : s.sums = none := by
    unfold Sp.sums
    rw [if_neg e4]
    rw [if_neg e5]
    rw [if_neg e6]
    rw [if_neg e7]
    rw [if_neg e9]
    rw [if_neg e10]
    rw [if_neg e11]
    rw [if_neg e17]
    rw [if_neg e18]
    rw [if_neg e21]
    rw [if_neg e22]
    rw [if_neg e23]
  rw [hs]
  exact sums_no w p s h hi.ok e4 e5 e6 e7 e9 e10 e11 e17 e18 e21 e22 e23
theorem bitw2_c (w : World) (p : Nat) (s : Sp) (h : SpW w p s) (hi : InsR s.i) :
    Calls Try.prog 37 #[.pointer (some ⟨p, 0, none⟩)] w fun e w' => e = .returned (.bool s.bitw.isSome) ∧ SpW w' p (s.bitw.getD s) ∧ Only (fun k => k = p) w w' := by
  by_cases e8 : s.i.op = 8
  · have hs : s.bitw = some ((s.sign s.i.imm).setR s.i.d.toNat s.i.imm) := by unfold Sp.bitw; simp only [e8]; rfl
    rw [hs]
    exact bit_8 w p s h hi.ok e8 (hi.low0 (by omega)) (hi.low (by omega))
  by_cases e1 : s.i.op = 1
  · have hs : s.bitw = some (s.shifted 1 s.rm s.i.imm s.i.d.toNat) := by unfold Sp.bitw; simp only [e1]; rfl
    rw [hs]
    exact bit_1 w p s h hi.ok e1 (hi.low0 (by omega)) (hi.sh (by omega))
  by_cases e2 : s.i.op = 2
  · have hs : s.bitw = some (s.shifted 2 s.rm s.i.imm s.i.d.toNat) := by unfold Sp.bitw; simp only [e2]; rfl
    rw [hs]
    exact bit_2 w p s h hi.ok e2 (hi.low0 (by omega)) (hi.sh (by omega))
  by_cases e3 : s.i.op = 3
  · have hs : s.bitw = some (s.shifted 3 s.rm s.i.imm s.i.d.toNat) := by unfold Sp.bitw; simp only [e3]; rfl
    rw [hs]
    exact bit_3 w p s h hi.ok e3 (hi.low0 (by omega)) (hi.sh (by omega))
  by_cases e14 : s.i.op = 14
  · have hs : s.bitw = some (s.shifted 14 s.rd (s.rm % 256) s.i.d.toNat) := by unfold Sp.bitw; simp only [e14]; rfl
    rw [hs]
    exact bit_14 w p s h hi.ok e14
  by_cases e15 : s.i.op = 15
  · have hs : s.bitw = some (s.shifted 15 s.rd (s.rm % 256) s.i.d.toNat) := by unfold Sp.bitw; simp only [e15]; rfl
    rw [hs]
    exact bit_15 w p s h hi.ok e15
  by_cases e16 : s.i.op = 16
  · have hs : s.bitw = some (s.shifted 16 s.rd (s.rm % 256) s.i.d.toNat) := by unfold Sp.bitw; simp only [e16]; rfl
    rw [hs]
    exact bit_16 w p s h hi.ok e16
  by_cases e19 : s.i.op = 19
  · have hs : s.bitw = some (s.shifted 19 s.rd (s.rm % 256) s.i.d.toNat) := by unfold Sp.bitw; simp only [e19]; rfl
    rw [hs]
    exact bit_19 w p s h hi.ok e19
  by_cases e12 : s.i.op = 12
  · have hs : s.bitw = some ((s.sign (bits .and .u32 s.rd s.rm)).setR s.i.d.toNat (bits .and .u32 s.rd s.rm)) := by unfold Sp.bitw; simp only [e12]; rfl
    rw [hs]
    exact bit_12 w p s h hi.ok e12
  by_cases e13 : s.i.op = 13
  · have hs : s.bitw = some ((s.sign (bits .xor .u32 s.rd s.rm)).setR s.i.d.toNat (bits .xor .u32 s.rd s.rm)) := by unfold Sp.bitw; simp only [e13]; rfl
    rw [hs]
    exact bit_13 w p s h hi.ok e13
  by_cases e20 : s.i.op = 20
  · have hs : s.bitw = some (s.sign (bits .and .u32 s.rd s.rm)) := by unfold Sp.bitw; simp only [e20]; rfl
    rw [hs]
    exact bit_20 w p s h hi.ok e20
  by_cases e24 : s.i.op = 24
  · have hs : s.bitw = some ((s.sign (bits .or .u32 s.rd s.rm)).setR s.i.d.toNat (bits .or .u32 s.rd s.rm)) := by unfold Sp.bitw; simp only [e24]; rfl
    rw [hs]
    exact bit_24 w p s h hi.ok e24
  by_cases e25 : s.i.op = 25
  · have hs : s.bitw = some ((s.sign (s.rd * s.rm % 4294967296)).setR s.i.d.toNat (s.rd * s.rm % 4294967296)) := by unfold Sp.bitw; simp only [e25]; rfl
    rw [hs]
    exact bit_25 w p s h hi.ok e25
  by_cases e26 : s.i.op = 26
  · have hs : s.bitw = some ((s.sign (bits .andNot .u32 s.rd s.rm)).setR s.i.d.toNat (bits .andNot .u32 s.rd s.rm)) := by unfold Sp.bitw; simp only [e26]; rfl
    rw [hs]
    exact bit_26 w p s h hi.ok e26
  by_cases e27 : s.i.op = 27
  · have hs : s.bitw = some ((s.sign (4294967295 - s.rm)).setR s.i.d.toNat (4294967295 - s.rm)) := by unfold Sp.bitw; simp only [e27]; rfl
    rw [hs]
    exact bit_27 w p s h hi.ok e27
  by_cases e28 : s.i.op = 28
  · have hs : s.bitw = some (s.setR s.i.d.toNat s.rm) := by unfold Sp.bitw; simp only [e28]; rfl
    rw [hs]
    exact bit_28 w p s h hi.ok e28
  have hs : s.bitw = none := by
    unfold Sp.bitw
    rw [if_neg e8]
    rw [if_neg e1]
    rw [if_neg e2]
    rw [if_neg e3]
    rw [if_neg e14]
    rw [if_neg e15]
    rw [if_neg e16]
    rw [if_neg e19]
    rw [if_neg e12]
    rw [if_neg e13]
    rw [if_neg e20]
    rw [if_neg e24]
    rw [if_neg e25]
    rw [if_neg e26]
    rw [if_neg e27]
    rw [if_neg e28]
  rw [hs]
  exact bitwise_no w p s h hi.ok e8 e1 e2 e3 e14 e15 e16 e19 e12 e13 e20 e24 e25 e26 e27 e28
theorem mem2_c (w : World) (p m g : Nat) (s : Sp) (f : Nat → Int) (h : SpW w p s) (hi : InsR s.i) (hm : MW w m g f) (hsm : s.m = .pointer (some ⟨m, 0, none⟩)) :
    Calls Try.prog 38 #[.pointer (some ⟨p, 0, none⟩)] w fun e w' => e = .returned (.bool (s.memS f).isSome) ∧ SpW w' p ((s.memS f).getD (s, f)).1 ∧ MW w' m g ((s.memS f).getD (s, f)).2 ∧ Only (fun k => k = p ∨ k = g) w w' := by
  by_cases e29 : s.i.op = 29
  · have hs : s.memS f = some ((s.setR s.i.d.toNat (wordS f s.addr).1).memEnd s.addr (wordS f s.addr).2, f) := by unfold Sp.memS; simp only [e29]; rfl
    rw [hs]
    exact mem_29 w p m g s f h hi.ok hm hsm e29
  by_cases e31 : s.i.op = 31
  · have hs : s.memS f = some ((s.setR s.i.d.toNat (wordS f s.addr).1).memEnd s.addr (wordS f s.addr).2, f) := by unfold Sp.memS; simp only [e31]; rfl
    rw [hs]
    exact mem_31 w p m g s f h hi.ok hm hsm e31 (hi.low0 (by omega)) (hi.mid (by omega))
  by_cases e35 : s.i.op = 35
  · have hs : s.memS f = some ((s.setR s.i.d.toNat (wordS f s.addr).1).memEnd s.addr (wordS f s.addr).2, f) := by unfold Sp.memS; simp only [e35]; rfl
    rw [hs]
    exact mem_35 w p m g s f h hi.ok hm hsm e35 (hi.low0 (by omega)) (hi.mid (by omega))
  by_cases e33 : s.i.op = 33
  · have hs : s.memS f = some ((s.setR s.i.d.toNat (byteS f s.addr).1).memEnd s.addr (byteS f s.addr).2, f) := by unfold Sp.memS; simp only [e33]; rfl
    rw [hs]
    exact mem_33 w p m g s f h hi.ok hm hsm e33 (hi.low0 (by omega)) (hi.mid (by omega))
  by_cases e30 : s.i.op = 30
  · have hs : s.memS f = some (s.memEnd s.addr (setWordS f s.addr s.rd).2, (setWordS f s.addr s.rd).1) := by unfold Sp.memS; simp only [e30]; rfl
    rw [hs]
    exact mem_30 w p m g s f h hi.ok hm hsm e30
  by_cases e32 : s.i.op = 32
  · have hs : s.memS f = some (s.memEnd s.addr (setWordS f s.addr s.rd).2, (setWordS f s.addr s.rd).1) := by unfold Sp.memS; simp only [e32]; rfl
    rw [hs]
    exact mem_32 w p m g s f h hi.ok hm hsm e32 (hi.low0 (by omega)) (hi.mid (by omega))
  by_cases e36 : s.i.op = 36
  · have hs : s.memS f = some (s.memEnd s.addr (setWordS f s.addr s.rd).2, (setWordS f s.addr s.rd).1) := by unfold Sp.memS; simp only [e36]; rfl
    rw [hs]
    exact mem_36 w p m g s f h hi.ok hm hsm e36 (hi.low0 (by omega)) (hi.mid (by omega))
  by_cases e34 : s.i.op = 34
  · have hs : s.memS f = some (s.memEnd s.addr (setByteS f s.addr (s.rd % 256)).2, (setByteS f s.addr (s.rd % 256)).1) := by unfold Sp.memS; simp only [e34]; rfl
    rw [hs]
    exact mem_34 w p m g s f h hi.ok hm hsm e34 (hi.low0 (by omega)) (hi.mid (by omega))
  have hs : s.memS f = none := by
    unfold Sp.memS
    rw [if_neg e29]
    rw [if_neg e31]
    rw [if_neg e35]
    rw [if_neg e33]
    rw [if_neg e30]
    rw [if_neg e32]
    rw [if_neg e36]
    rw [if_neg e34]
  rw [hs]
  exact (memory_no w p s h hi.ok e29 e31 e35 e33 e30 e32 e36 e34).mono fun e w' ⟨h1, h2, h3⟩ => ⟨h1, h2, hm.only h3 (fun e => (h.apart hm).1 e.symm) (fun e => (h.apart hm).2 e.symm), h3.mono (fun _ _ e => .inl e)⟩
theorem other2_c (w : World) (p m g : Nat) (s : Sp) (f : Nat → Int) (h : SpW w p s) (hi : InsR s.i) (hm : MW w m g f) (hsm : s.m = .pointer (some ⟨m, 0, none⟩)) (hft : s.fault = false) (ha0 : 0 ≤ s.at_) (ha1 : s.at_ < 131072) :
    Calls Try.prog 39 #[.pointer (some ⟨p, 0, none⟩)] w (OtherPost p m g (s.otherS f).1 (s.otherS f).2 w) := by
  by_cases e37 : s.i.op = 37
  · have hs : s.otherS f = (s.setR 13 ((s.c.R.getD 13 0 + s.i.imm) % 4294967296), f) := by unfold Sp.otherS; simp only [e37]; rfl
    rw [hs]
    exact other_37 w p m g s f h hm e37 (hi.low0 (by omega)) ((hi.sp (by omega)).2 (by omega))
  by_cases e38 : s.i.op = 38
  · have hs : s.otherS f = (s.setR 13 ((s.c.R.getD 13 0 - s.i.imm) % 4294967296), f) := by unfold Sp.otherS; simp only [e38]; rfl
    rw [hs]
    exact other_38 w p m g s f h hm e38 (hi.low0 (by omega)) ((hi.sp (by omega)).2 (by omega))
  by_cases e39 : s.i.op = 39
  · have hs : s.otherS f = (s.push, pushF s f) := by unfold Sp.otherS; simp only [e39]; rfl
    rw [hs]
    exact other_39 w p m g s f h hm e39 hsm (hi.low0 (by omega)) (hi.lst (by omega)).2 hft
  by_cases e40 : s.i.op = 40
  · have hs : s.otherS f = (s.pop f, f) := by unfold Sp.otherS; simp only [e40]; rfl
    rw [hs]
    exact other_40 w p m g s f h hm e40 hsm (hi.low0 (by omega)) (hi.lst (by omega)).2
  by_cases e41 : s.i.op = 41
  · have hs : s.otherS f = (if s.c.holds s.i.cond then s.branch 3 else s, f) := by unfold Sp.otherS; rw [e41]; rfl
    rw [hs]
    dsimp only
    cases hb : s.c.holds s.i.cond
    · rw [if_neg Bool.false_ne_true]; exact other_41n w p m g s f h hm e41 ha0 ha1 hi.c0 hi.c1 hb
    · rw [if_pos rfl]; exact other_41y w p m g s f h hm e41 ha0 ha1 hi.c0 hi.c1 hb
  by_cases e42 : s.i.op = 42
  · have hs : s.otherS f = (s.branch 3, f) := by unfold Sp.otherS; simp only [e42]; rfl
    rw [hs]
    exact other_42 w p m g s f h hm e42 ha0 ha1
  by_cases e43 : s.i.op = 43
  · have hs : s.otherS f = ((s.setR 14 (bits .or .u32 (s.at_ + 4) 1)).branch 4, f) := by unfold Sp.otherS; simp only [e43]; rfl
    rw [hs]
    exact other_43 w p m g s f h hm e43 ha0 ha1
  by_cases e44 : s.i.op = 44
  · have hs : s.otherS f = ({ s with c := { s.c with st := 1, num := s.i.imm } }, f) := by unfold Sp.otherS; simp only [e44]; rfl
    rw [hs]
    exact other_44 w p m g s f h hm e44 
  have hs : s.otherS f = (s, f) := by
    unfold Sp.otherS
    rw [if_neg e37]
    rw [if_neg e38]
    rw [if_neg e39]
    rw [if_neg e40]
    rw [if_neg e41]
    rw [if_neg e42]
    rw [if_neg e43]
    rw [if_neg e44]
  rw [hs]
  exact other_no w p m g s f h hm e37 e38 e39 e40 e41 e42 e43 e44
/-- what an instruction does -/
def Sp.exec (s : Sp) (f : Nat → Int) : Sp × (Nat → Int) :=
  match s.sums with
  | some s' => (s', f)
  | none => match s.bitw with
    | some s' => (s', f)
    | none => match s.memS f with
      | some r => r
      | none => s.otherS f
end Go.Proofs.Ytpihjhfaeloapaa
