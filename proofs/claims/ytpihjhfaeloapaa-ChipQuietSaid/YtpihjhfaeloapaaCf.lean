/- What an instruction that may be is like; the chip's fetch. -/
import Derived.Test.YtpihjhfaeloapaaCu
import Derived.Test.YtpihjhfaeloapaaThS
import Derived.Test.YtpihjhfaeloapaaMem3
namespace Go.Proofs.Ytpihjhfaeloapaa
open Go.RowKit On Th
/-- what an instruction that may be is like -/
structure InsR (i : Ins) : Prop where
  ok : InsOk i
  op0 : 1 ≤ i.op
  op1 : i.op ≤ 45
  c0 : 0 ≤ i.cond
  c1 : i.cond ≤ 13
  far0 : -16777216 ≤ i.imm
  far1 : i.imm ≤ 16777214
  low0 : i.op ≤ 40 ∨ i.op = 44 ∨ i.op = 45 → 0 ≤ i.imm
  sh : i.op ≤ 3 → i.imm ≤ 32
  low : i.op ≤ 27 → i.imm ≤ 255
  mid : i.op ≤ 36 → i.imm ≤ 1020
  sp : i.op ≤ 38 → i.imm ≤ 1020 ∧ (37 ≤ i.op → i.imm ≤ 508)
  lst : i.op = 39 ∨ i.op = 40 → 1 ≤ i.imm ∧ i.imm ≤ 511
  svc : i.op = 44 → i.imm ≤ 255
theorem rowOf_range {op : Int} {x : Int × List Sl} (h : rowOf op = some x) : 1 ≤ op ∧ op ≤ 45 := by
  by_cases hc : 1 ≤ op ∧ op ≤ 45
  · exact hc
  · exfalso
    have e : rowOf op = none := by
      unfold rowOf
      repeat rw [if_neg (by omega)]
    rw [e] at h; cases h
set_option maxHeartbeats 8000000 in
theorem right_R {i : Ins} (h : rightS i = true) : InsR i := by
  obtain ⟨op, d, n, m, imm, cond⟩ := i
  have hop : 1 ≤ op ∧ op ≤ 45 := by
    unfold rightS at h
    by_cases e28 : op = 28
    · omega
    · by_cases e43 : op = 43
      · omega
      · rw [if_neg e28, if_neg e43] at h
        cases hr : rowOf op with
        | none => dsimp only at h; rw [hr] at h; cases h
        | some x => exact rowOf_range hr
  obtain ⟨h0, h1⟩ := hop
  have hc : op = 1 ∨ op = 2 ∨ op = 3 ∨ op = 4 ∨ op = 5 ∨ op = 6 ∨ op = 7 ∨ op = 8 ∨ op = 9 ∨ op = 10 ∨ op = 11 ∨ op = 12 ∨ op = 13 ∨ op = 14 ∨ op = 15 ∨ op = 16 ∨ op = 17 ∨ op = 18 ∨ op = 19 ∨ op = 20 ∨ op = 21 ∨ op = 22 ∨ op = 23 ∨ op = 24 ∨ op = 25 ∨ op = 26 ∨ op = 27 ∨ op = 28 ∨ op = 29 ∨ op = 30 ∨ op = 31 ∨ op = 32 ∨ op = 33 ∨ op = 34 ∨ op = 35 ∨ op = 36 ∨ op = 37 ∨ op = 38 ∨ op = 39 ∨ op = 40 ∨ op = 41 ∨ op = 42 ∨ op = 43 ∨ op = 44 ∨ op = 45 := by omega
  rcases hc with rfl | rfl | rfl | rfl | rfl | rfl | rfl | rfl | rfl | rfl | rfl | rfl | rfl | rfl | rfl | rfl | rfl | rfl | rfl | rfl | rfl | rfl | rfl | rfl | rfl | rfl | rfl | rfl | rfl | rfl | rfl | rfl | rfl | rfl | rfl | rfl | rfl | rfl | rfl | rfl | rfl | rfl | rfl | rfl | rfl
  all_goals
    simp [rightS, rowOf, rowOk, rpS, reg, im] at h
    refine ⟨⟨?_, ?_, ?_, ?_, ?_, ?_⟩, ?_, ?_, ?_, ?_, ?_, ?_, ?_, ?_, ?_, ?_, ?_, ?_, ?_⟩ <;> dsimp only <;> omega
theorem far_R (a b : Int) : InsR ⟨43, 0, 0, 0, farS a b, 0⟩ := by
  unfold farS nx
  refine ⟨⟨?_, ?_, ?_, ?_, ?_, ?_⟩, ?_, ?_, ?_, ?_, ?_, ?_, ?_, ?_, ?_, ?_, ?_, ?_, ?_⟩ <;> dsimp only <;> omega
theorem set_op (i : Ins) (k v : Int) : (i.set k v).op = i.op := by unfold Ins.set; repeat (first | rfl | split)
theorem foldl_op (h : Int) (l : List Sl) : ∀ st : Ins × Int, (l.foldl (readStep h) st).1.op = st.1.op := by
  induction l with
  | nil => intro st; rfl
  | cons s l ih => intro st; rw [List.foldl_cons, ih]; exact set_op _ _ _
theorem readUp_op (op h : Int) (l : List Sl) (q : Nat) : (readUp op h l q).1.op = op := by unfold readUp; rw [foldl_op]
theorem dec_R {hs : List Int} {i : Ins} {n : Int} (h : decS hs = (i, n, 0)) : InsR i ∧ n = (if i.op = 43 then 2 else 1) := by
  unfold decS at h
  cases hs with
  | nil => simp at h
  | cons a t =>
    dsimp only at h
    by_cases h1 : a / 2048 = 30
    · rw [if_pos h1] at h
      cases t with
      | nil => simp at h
      | cons b u =>
        dsimp only at h
        by_cases h2 : bits .and .u16 b 53248 = 53248
        · rw [if_pos h2] at h
          simp only [Prod.mk.injEq, and_true] at h
          obtain ⟨rfl, rfl⟩ := h
          exact ⟨far_R a b, rfl⟩
        · rw [if_neg h2] at h; simp at h
    · rw [if_neg h1] at h
      by_cases h2 : a / 256 = 70
      · rw [if_pos h2] at h
        by_cases h3 : rightS (movI a) = true
        · rw [if_pos h3] at h
          simp only [Prod.mk.injEq, and_true] at h
          obtain ⟨rfl, rfl⟩ := h
          exact ⟨right_R h3, rfl⟩
        · rw [if_neg h3] at h; simp at h
      · rw [if_neg h2] at h
        cases hr : rowOf (opS a) with
        | none => rw [hr] at h; simp at h
        | some x =>
          obtain ⟨b, l⟩ := x
          rw [hr] at h
          dsimp only at h
          by_cases h3 : (((readUp (opS a) a l l.length).2 == b) && rightS (readUp (opS a) a l l.length).1) = true
          · rw [if_pos h3] at h
            simp only [Prod.mk.injEq, and_true] at h
            obtain ⟨rfl, rfl⟩ := h
            simp only [Bool.and_eq_true] at h3
            refine ⟨right_R h3.2, ?_⟩
            have ho : (readUp (opS a) a l l.length).1.op = opS a := readUp_op _ _ _ _
            rw [ho, if_neg]
            intro e
            rw [e] at hr
            cases hr
          · rw [if_neg h3] at h; simp at h
def halfS (f : Nat → Int) (a : Int) : Int × Bool := if 0 ≤ a ∧ a % 2 = 0 ∧ a < 131072 then (getB f a.toNat 2, true) else (0, false)
theorem half_c (w : World) (m g : Nat) (f : Nat → Int) (a : Int) (h : Mm w 74 m g f) :
    Calls Try.prog 52 #[.pointer (some ⟨m, 0, none⟩), .int .i64 a] w fun e w' => e = .returned (.tuple #[.int .u16 (halfS f a).1, .bool (halfS f a).2]) ∧ w = w' := by
  unfold halfS
  by_cases c : 0 ≤ a ∧ a % 2 = 0 ∧ a < 131072
  · rw [if_pos c]; exact half_yes w m g f a h c.1 c.2.1 c.2.2
  · rw [if_neg c]; exact half_no w _ a (by omega)
theorem halfS_R {f : Nat → Int} (hf : ∀ i, 0 ≤ f i ∧ f i ≤ 255) (a : Int) : 0 ≤ (halfS f a).1 ∧ (halfS f a).1 < 65536 := by
  unfold halfS
  split
  · have h := getB_range hf a.toNat 2; exact ⟨h.1, by have := h.2; dsimp only; omega⟩
  · dsimp only; omega
/-- the halfwords that are fetched -/
def hsTo (f : Nat → Int) (a : Int) : Nat → List Int
  | 0 => []
  | k + 1 => hsTo f a k ++ (if (halfS f (a + 2 * k)).2 then [(halfS f (a + 2 * k)).1] else [])
theorem hsTo_R {f : Nat → Int} (hf : ∀ i, 0 ≤ f i ∧ f i ≤ 255) (a : Int) (k : Nat) : ∀ x ∈ hsTo f a k, 0 ≤ x ∧ x < 65536 := by
  induction k with
  | zero => simp [hsTo]
  | succ k ih =>
    intro x hx
    unfold hsTo at hx
    rcases List.mem_append.mp hx with h | h
    · exact ih x h
    · split at h
      · simp at h; subst h; exact halfS_R hf _
      · simp at h
theorem hsTo_len (f : Nat → Int) (a : Int) (k : Nat) : (hsTo f a k).length ≤ k := by
  induction k with
  | zero => simp [hsTo]
  | succ k ih => unfold hsTo; split <;> simp <;> omega
theorem own_hw {w : World} {base n c : Nat} {A : Option Addr} {xs : List Int} (h : w.ownsRow base 79 1 (.slice A n c) n (xs.map (Value.int .u16))) (hr : ∀ x ∈ xs, 0 ≤ x ∧ x < 65536) : Hw w (.slice A n c) xs := by
  have hn : n = xs.length := by have := h.1; simpa using this.symm
  subst hn
  refine ⟨A, c, rfl, fun k x hx => ⟨(hr x (List.mem_of_getElem? hx)).1, (hr x (List.mem_of_getElem? hx)).2, ?_⟩⟩
  have hk : k < xs.length := (List.getElem?_eq_some_iff.mp hx).1
  obtain ⟨A', c', e, ⟨_, h0, _⟩ | ⟨g, cur, rfl, hb, hg, h1, h2, h3, h4⟩⟩ := own_slice h
  · omega
  · injection e with e1 _ _
    subst e1
    refine ⟨g, 0, rfl, ?_⟩
    have : (cur.toList.take (xs.length * 1))[k]? = some (.int .u16 x) := by rw [h4, List.getElem?_map, hx]; rfl
    rw [List.getElem?_take, if_pos (by omega)] at this
    rw [hg.cell, ← Array.getElem?_toList, Nat.zero_add]
    exact this
theorem info_u16 : (Try.prog.info? 79).map (fun i => (i.zero, i.size, i.bytes)) = some (some (.int .u16 0), 1, 2) := by kernel_rfl
theorem info_parts2 {t : TypeId} {z : Value} {s b : Nat} (h : (Try.prog.info? t).map (fun i => (i.zero, i.size, i.bytes)) = some (some z, s, b)) : ∃ i, Try.prog.info? t = some i ∧ i.zero = some z ∧ i.size = s ∧ i.bytes = b := by
  cases hi : Try.prog.info? t with
  | none => rw [hi] at h; simp at h
  | some i => rw [hi] at h; simp at h; exact ⟨i, rfl, h.1, h.2.1, h.2.2⟩
/-- what a fetch gives -/
def fetchS (f : Nat → Int) (a : Int) : Ins × Int × Int := decS (hsTo f a 2)
set_option maxHeartbeats 4000000 in
set_option maxRecDepth 100000 in
theorem fetch_c (w : World) (m g : Nat) (f : Nat → Int) (a : Int) (h : Mm w 74 m g f) (ha : U a) :
    Calls Try.prog 34 #[.pointer (some ⟨m, 0, none⟩), .int .u32 a] w fun e w' => e = .returned (.tuple #[.agg #[.int .i64 (fetchS f a).1.op, .int .i64 (fetchS f a).1.d, .int .i64 (fetchS f a).1.n, .int .i64 (fetchS f a).1.m, .int .i64 (fetchS f a).1.imm, .int .i64 (fetchS f a).1.cond], .int .i64 (fetchS f a).2.2]) ∧ Below w.heap.size w w' := by
  obtain ⟨i0, hi0, hz0, hz1, hz2⟩ := info_parts2 info_u16
  have HFR : Hid (∀ i, 0 ≤ f i ∧ f i ≤ 255) := fun i => h.2.range i
  have HM := Lib.hid h
  obtain ⟨a0, a1⟩ := ha
  have HR : Hid (Blk (w.alloc (.cells #[.int .i64 0, .int .i64 0, .int .i64 0, .int .i64 0, .int .i64 0, .int .i64 0] 36)) w.heap.size 36 #[.int .i64 0, .int .i64 0, .int .i64 0, .int .i64 0, .int .i64 0, .int .i64 0]) := Blk.new _ _ _
  have HB0 : Hid (Below w.heap.size w (w.alloc (.cells #[.int .i64 0, .int .i64 0, .int .i64 0, .int .i64 0, .int .i64 0, .int .i64 0] 36))) := (Below.refl _ _).alloc (Nat.le_refl _) _
  clear h
  go_enter Try.func34, Try.ntmps34
  go_wp2_with fail
  go_loopw [6, 13] (fun s6 s13 wx => ∃ (k : Nat) (A : Option Addr) (c n : Nat), k ≤ 2 ∧ s13 = .int .i64 k ∧ s6 = .slice A n c ∧ n = (hsTo f a k).length ∧ wx.ownsRow (w.heap.size + 1) 79 1 (.slice A n c) n ((hsTo f a k).map (Value.int .u16)) ∧ Blk wx w.heap.size 36 #[.int .i64 0, .int .i64 0, .int .i64 0, .int .i64 0, .int .i64 0, .int .i64 0] ∧ Below w.heap.size w wx) (fun _ i _ => 2 - (intOf i).toNat)
  case atStart => exact ⟨0, none, 0, 0, by omega, rfl, rfl, rfl, World.ownsRow_nil _ _ _ _, HR.out, HB0.out⟩
  case round =>
    obtain ⟨k, A, c, n, hk, rfl, rfl, hn, ho, hr, hb⟩ := hrel
    have HO := Lib.hid ho; have HB := Lib.hid hb; have HRX := Lib.hid hr; have HN := Lib.hid hn
    have HMX : Hid (Mm wr 74 m g f) := by
      obtain ⟨hb1, hb2⟩ := HM.out
      exact ⟨hb1.only (S := fun _ => False) (Only.of_below hb) id, hb2.only (S := fun _ => False) (Only.of_below hb) id⟩
    have hsw : w.heap.size + 1 ≤ wr.heap.size := hr.lt
    have hl := hsTo_len f a k
    rw [← hn] at hl
    have HHT : Hid (hsTo f a (k + 1) = hsTo f a k ++ (if (halfS f (a + 2 * k)).2 then [(halfS f (a + 2 * k)).1] else [])) := rfl
    clear ho hb hr hn HR HB0
    by_cases hlt : k < 2
    · have HH := Lib.hid (half_c wr m g f (a + 2 * k) HMX.out)
      have HHR := Lib.hid (halfS_R HFR.out (a + 2 * k))
      generalize halfS f (a + 2 * k) = ho at *
      obtain ⟨x, ok⟩ := ho
      dsimp only at HH HHT HHR
      obtain ⟨x0, x1⟩ := HHR.out
      go_wp2_with fail
      refine (HH.out).mono ?_
      rintro e w' ⟨rfl, rfl⟩
      cases ok
      · rw [if_neg Bool.false_ne_true, List.append_nil] at HHT
        go_wp2_with fail
        go_roundw
        case rel => exact ⟨k + 1, A, c, n, by omega, by go_num, rfl, by rw [HHT.out]; exact HN.out, by rw [HHT.out]; exact HO.out, HRX.out, HB.out⟩
        case measure => simp [intOf]; omega
      · rw [if_pos rfl] at HHT
        generalize hsTo f a k = l at *
        go_wp2_with (at_builtin; go_loud (refine wpList_append_at _ rfl (.tmp 27) (.tmp 29) _ rfl (w.heap.size + 1) 79 i0 _ 1 2 Try.underlying24 hi0 hz0 hz1 hz2 rfl (by omega) _ n (l.map (Value.int .u16)) rfl (own_only HO.out ((Only.refl (fun _ => False) wr).alloc _) (fun _ _ => id)) (some ⟨wr.heap.size, 0, none⟩) 1 1 _ rfl (Src.block wr 79 1 [.int .u16 x] rfl (by simp [Value.oneCell']) (0, 0)) (by simp) (by unfold maxLen; omega) (by omega) (by simp; omega) ?_))
        intro A5 c5 w5 hown5 hg5 hn5
        have hO5 := ((Only.refl (fun j => w.heap.size + 1 ≤ j) wr).alloc (.cells #[.int .u16 x] 79)).grown hg5 (fun j hj => .inl (HO.out.lt j hj).1)
        have HB5 : Hid (Below w.heap.size w w5) := HB.out.trans (hO5.below HB.out.size (fun j h => Nat.le_of_succ_le h))
        have HR5 := Lib.hid (HRX.out.only hO5 (by omega))
        have HO5 : Hid (w5.ownsRow (w.heap.size + 1) 79 1 (.slice A5 (n + 1) c5) (n + 1) ((l ++ [x]).map (Value.int .u16))) := by
          show World.ownsRow _ _ _ _ _ _ _
          rw [List.map_append]; exact hown5
        clear hown5 hg5 hn5 hO5
        go_wp2_with fail
        go_roundw
        case rel => exact ⟨k + 1, A5, c5, n + 1, by omega, by go_num, rfl, by rw [HHT.out, List.length_append, ← HN.out]; rfl, by rw [HHT.out]; exact HO5.out, HR5.out, HB5.out⟩
        case measure => simp [intOf]; omega
    · have hk2 : k = 2 := by omega
      subst hk2
      have HD := Lib.hid (decode_c (own_hw HO.out (hsTo_R HFR.out a 2)))
      have HFS : Hid (fetchS f a = decS (hsTo f a 2)) := rfl
      clear HHT
      generalize decS (hsTo f a 2) = r at *
      obtain ⟨⟨op, d, nn, mm, imm, cond⟩, cnt, er⟩ := r
      unfold DecAt at HD
      dsimp only at HD
      have r0 := HRX.out.cell 0
      have r1 := HRX.out.cell 1
      have r2 := HRX.out.cell 2
      have r3 := HRX.out.cell 3
      have r4 := HRX.out.cell 4
      have r5 := HRX.out.cell 5
      simp at r0 r1 r2 r3 r4 r5
      go_wp2_with fail
      refine (HD.out).mono ?_
      rintro e w2 ⟨rfl, hb2⟩
      have HR2 := Lib.hid (HRX.out.only (S := fun _ => False) (Only.of_below hb2) id)
      have HB2 := Lib.hid (HB.out.trans (hb2.mono HB.out.size))
      have hlt2 := HR2.out.lt
      obtain ⟨wz, hwz⟩ : ∃ wz, wz = w2.alloc (.cells #[.int .i64 op, .int .i64 d, .int .i64 nn, .int .i64 mm, .int .i64 imm, .int .i64 cond] 36) := ⟨_, rfl⟩
      obtain ⟨X, hX⟩ : ∃ X, X = w2.heap.size := ⟨_, rfl⟩
      have KX : Hid (Blk wz X 36 #[.int .i64 op, .int .i64 d, .int .i64 nn, .int .i64 mm, .int .i64 imm, .int .i64 cond]) := by rw [hwz, hX]; exact Blk.new _ _ _
      have HRZ : Hid (Blk wz w.heap.size 36 #[.int .i64 0, .int .i64 0, .int .i64 0, .int .i64 0, .int .i64 0, .int .i64 0]) := by rw [hwz]; exact HR2.out.alloc _
      have HBZ : Hid (Below w.heap.size w wz) := by rw [hwz]; exact HB2.out.alloc HB2.out.size _
      clear hb2 r0 r1 r2 r3 r4 r5 HRX HB HR2 HB2 HO HD
      go_upto_region 10 with (fail)
      rw [← hwz, ← hX]
      clear hwz hX hlt2
      have x0 := KX.out.cell 0
      have x1 := KX.out.cell 1
      have x2 := KX.out.cell 2
      have x3 := KX.out.cell 3
      have x4 := KX.out.cell 4
      have x5 := KX.out.cell 5
      simp at x0 x1 x2 x3 x4 x5
      have r0 := HRZ.out.cell 0
      have r1 := HRZ.out.cell 1
      have r2 := HRZ.out.cell 2
      have r3 := HRZ.out.cell 3
      have r4 := HRZ.out.cell 4
      have r5 := HRZ.out.cell 5
      simp at r0 r1 r2 r3 r4 r5
      have z0 := HRZ.out.frozen 0
      have z1 := HRZ.out.frozen 1
      have z2 := HRZ.out.frozen 2
      have z3 := HRZ.out.frozen 3
      have z4 := HRZ.out.frozen 4
      have z5 := HRZ.out.frozen 5
      obtain ⟨N, hN⟩ : ∃ N, N = w.heap.size := ⟨_, rfl⟩
      have KE : Blk ((((((wz.setCell ⟨w.heap.size, 0, none⟩ (.int .i64 op)).setCell ⟨w.heap.size, 1, none⟩ (.int .i64 d)).setCell ⟨w.heap.size, 2, none⟩ (.int .i64 nn)).setCell ⟨w.heap.size, 3, none⟩ (.int .i64 mm)).setCell ⟨w.heap.size, 4, none⟩ (.int .i64 imm)).setCell ⟨w.heap.size, 5, none⟩ (.int .i64 cond)) w.heap.size 36 #[.int .i64 op, .int .i64 d, .int .i64 nn, .int .i64 mm, .int .i64 imm, .int .i64 cond] := ((((((HRZ.out.set 0 _).set 1 _).set 2 _).set 3 _).set 4 _).set 5 _)
      have ke := Blk.six KE
      have HE := Lib.hid ((((((HBZ.out.setCell (p := ⟨w.heap.size, 0, none⟩) (Nat.le_refl _) (.int .i64 op)).setCell (p := ⟨w.heap.size, 1, none⟩) (Nat.le_refl _) (.int .i64 d)).setCell (p := ⟨w.heap.size, 2, none⟩) (Nat.le_refl _) (.int .i64 nn)).setCell (p := ⟨w.heap.size, 3, none⟩) (Nat.le_refl _) (.int .i64 mm)).setCell (p := ⟨w.heap.size, 4, none⟩) (Nat.le_refl _) (.int .i64 imm)).setCell (p := ⟨w.heap.size, 5, none⟩) (Nat.le_refl _) (.int .i64 cond))
      clear KE hN
      go_wp2_with fail
      refine bodyPost_ret (v := .tuple #[.agg #[.int .i64 op, .int .i64 d, .int .i64 nn, .int .i64 mm, .int .i64 imm, .int .i64 cond], .int .i64 er]) (by rw [results_cell_tmp rfl]; go_simp) rfl ?_
      rw [HFS.out]
      exact ⟨rfl, HE.out⟩
end Go.Proofs.Ytpihjhfaeloapaa
