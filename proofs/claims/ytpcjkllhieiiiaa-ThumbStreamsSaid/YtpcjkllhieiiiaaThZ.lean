/- Instructions laid one behind the other; ThumbStreams. -/
import Derived.Test.YtpcjkllhieiiiaaThW
import Derived.Test.YtpcjkllhieiiiaaThS
import Derived.Test.YtpcjkllhieiiiaaRows2
import Derived.WalkSmall
import Derived.OwnWalk
import Derived.Deep.DeepCutAuto
import Derived.Deep.CutBlock
import Derived.BigGuardPart
namespace Go.Proofs.Ytpcjkllhieiiiaa
open Go.RowKit On Th
theorem info_u16 : (Try.prog.info? 37).map (fun i => (i.zero, i.size, i.bytes)) = some (some (.int .u16 0), 1, 2) := by kernel_rfl
theorem info_ins : (Try.prog.info? 24).map (fun i => (i.zero, i.size, i.bytes)) = some (some (.agg #[.int .i64 0, .int .i64 0, .int .i64 0, .int .i64 0, .int .i64 0, .int .i64 0]), 6, 48) := by kernel_rfl
theorem info_parts2 {t : TypeId} {z : Value} {s b : Nat} (h : (Try.prog.info? t).map (fun i => (i.zero, i.size, i.bytes)) = some (some z, s, b)) : ∃ i, Try.prog.info? t = some i ∧ i.zero = some z ∧ i.size = s ∧ i.bytes = b := by
  cases hi : Try.prog.info? t with
  | none => rw [hi] at h; simp at h
  | some i => rw [hi] at h; simp at h; exact ⟨i, rfl, h.1, h.2.1, h.2.2⟩
def rowI (i : Ins) : List Value := [.int .i64 i.op, .int .i64 i.d, .int .i64 i.n, .int .i64 i.m, .int .i64 i.imm, .int .i64 i.cond]
def rowsI (l : List Ins) : List Value := l.flatMap rowI
def hsI (l : List Ins) : List Int := l.flatMap encL
theorem rowsI_snoc (l : List Ins) (i : Ins) : rowsI (l ++ [i]) = rowsI l ++ [.int .i64 i.op, .int .i64 i.d, .int .i64 i.n, .int .i64 i.m, .int .i64 i.imm, .int .i64 i.cond] := by
  unfold rowsI; rw [List.flatMap_append]; simp [rowI]
theorem hsI_snoc (l : List Ins) (i : Ins) : hsI (l ++ [i]) = hsI l ++ encL i := by
  unfold hsI; rw [List.flatMap_append]; simp
theorem hsI_len (l : List Ins) (h : ∀ i ∈ l, rightS i = true) : (hsI l).length ≤ 2 * l.length := by
  induction l with
  | nil => simp [hsI]
  | cons a l ih =>
    have h1 := ih (fun i hi => h i (List.mem_cons_of_mem _ hi))
    have h2 := (enc_range a (h a List.mem_cons_self)).2
    unfold hsI at h1 ⊢
    rw [List.flatMap_cons, List.length_append, List.length_cons]
    omega
theorem hsI_range (l : List Ins) (h : ∀ i ∈ l, rightS i = true) : ∀ x ∈ hsI l, 0 ≤ x ∧ x < 65536 := by
  intro x hx
  unfold hsI at hx
  rw [List.mem_flatMap] at hx
  obtain ⟨i, hi, hx⟩ := hx
  exact (enc_range i (h i hi)).1 x hx
theorem rowsI_at (l : List Ins) : ∀ (k : Nat) (hk : k < l.length) (j : Nat), j < 6 → (rowsI l)[k * 6 + j]? = (rowI (l[k]'hk))[j]? := by
  induction l with
  | nil => intro k hk; simp at hk
  | cons a l ih =>
    intro k hk j hj
    unfold rowsI
    rw [List.flatMap_cons]
    cases k with
    | zero => rw [List.getElem?_append_left (by simp [rowI]; omega)]; simp
    | succ k =>
      rw [List.getElem?_append_right (by simp [rowI]; omega)]
      have : (k + 1) * 6 + j - (rowI a).length = k * 6 + j := by simp [rowI]; omega
      rw [this]
      have := ih k (by simpa using hk) j hj
      unfold rowsI at this
      simpa using this
/-- the two rows that are filled -/
structure Str (N : Nat) (w0 w : World) (vh vk : Value) (l : List Ins) : Prop where
  h : w.ownsRow N 37 1 vh (hsI l).length ((hsI l).map (Value.int .u16))
  k : w.ownsRow N 24 6 vk l.length (rowsI l)
  r : ∀ i ∈ l, rightS i = true
  b : Below N w0 w
theorem Str.keep {N : Nat} {w0 w w' : World} {vh vk : Value} {l : List Ins} (s : Str N w0 w vh vk l) (hb : Below w.heap.size w w') (hN : N ≤ w.heap.size) : Str N w0 w' vh vk l :=
  ⟨own_only s.h (Only.of_below (S := fun _ => False) hb) (fun _ _ => id), own_only s.k (Only.of_below (S := fun _ => False) hb) (fun _ _ => id), s.r, s.b.trans (hb.mono hN)⟩
theorem own_apart {w : World} {N M : Nat} {vh vk : Value} {n m : Nat} {xs ys : List Value} (h : w.ownsRow N 37 1 vh n xs) (k : w.ownsRow M 24 6 vk m ys) : ∀ b, vk.ownBlock = some b → vh.ownBlock ≠ some b := by
  intro b hb he
  obtain ⟨A, c, rfl, ⟨rfl, _⟩ | ⟨g, cur, rfl, _, g1, _⟩⟩ := own_slice h
  · simp [Value.ownBlock] at he
  · obtain ⟨A', c', rfl, ⟨rfl, _⟩ | ⟨g', cur', rfl, _, g2, _⟩⟩ := own_slice k
    · simp [Value.ownBlock] at hb
    · simp [Value.ownBlock] at he hb
      exact g1.ne g2 (by decide) (he.trans hb.symm)
theorem own_ne_blk {w : World} {N b : Nat} {vh : Value} {n : Nat} {xs : List Value} {cs : Array Value} (h : w.ownsRow N 37 1 vh n xs) (k : Blk w b 24 cs) : vh.ownBlock ≠ some b := by
  intro he
  obtain ⟨A, c, rfl, ⟨rfl, _⟩ | ⟨g, cur, rfl, _, g1, _⟩⟩ := own_slice h
  · simp [Value.ownBlock] at he
  · simp [Value.ownBlock] at he
    exact g1.ne k (by decide) he
theorem own_base {w : World} {base : Nat} {e : TypeId} {size n : Nat} {v : Value} {xs : List Value} (h : w.ownsRow base e size v n xs) : ∀ k, v.ownBlock = some k → base ≤ k := by
  obtain ⟨_, h⟩ := h
  rcases h with ⟨rfl, _⟩ | ⟨g, cap, cur, rfl, h1, _⟩
  · intro k hk; simp [Value.ownBlock] at hk
  · intro k hk; simp [Value.ownBlock] at hk; omega
/-- what is left of the halfwords -/
def Rest (w : World) (s : Value) (hs : List Int) : Prop :=
  ∃ A c, s = .slice A hs.length c ∧ hs.length ≤ c ∧ ∀ (k : Nat) x, hs[k]? = some x → 0 ≤ x ∧ x < 65536 ∧ ∃ g o, A = some ⟨g, o, none⟩ ∧ w.cell? ⟨g, o + k, none⟩ = some (.int .u16 x)
theorem Rest.hw {w : World} {s : Value} {hs : List Int} (h : Rest w s hs) : Hw w s hs := by
  obtain ⟨A, c, h1, _, h2⟩ := h; exact ⟨A, c, h1, h2⟩
theorem Rest.keep {w w' : World} {s : Value} {hs : List Int} (h : Rest w s hs) (hb : Below w.heap.size w w') : Rest w' s hs := by
  obtain ⟨A, c, h1, h0, h2⟩ := h
  exact ⟨A, c, h1, h0, fun k x hx => by
    obtain ⟨k1, k2, g, o, k3, k4⟩ := h2 k x hx
    exact ⟨k1, k2, g, o, k3, by rw [hb.cell (block_lt_of_cell k4)]; exact k4⟩⟩
theorem own_rest {w : World} {base : Nat} {v : Value} {xs : List Int} (h : w.ownsRow base 37 1 v xs.length (xs.map (Value.int .u16))) (hr : ∀ x ∈ xs, 0 ≤ x ∧ x < 65536) : Rest w v xs := by
  obtain ⟨A, c, rfl, ⟨rfl, h0, rfl⟩ | ⟨g, cur, rfl, _, h2, h3, _, _, h4⟩⟩ := own_slice h
  · have : xs = [] := List.eq_nil_of_length_eq_zero h0
    subst this
    exact ⟨none, 0, rfl, Nat.le_refl _, fun k x h => by simp at h⟩
  · refine ⟨_, c, rfl, h3, fun k x hx => ?_⟩
    obtain ⟨r1, r2⟩ := hr x (List.mem_of_getElem? hx)
    refine ⟨r1, r2, g, 0, rfl, ?_⟩
    rw [h2.cell (0 + k)]
    have hk : k < xs.length := (List.getElem?_eq_some_iff.mp hx).1
    have : (cur.toList.take (xs.length * 1))[k]? = some (.int .u16 x) := by rw [h4]; simp [hx]
    rw [List.getElem?_take] at this
    simp [hk] at this
    simp [this]
theorem Rest.off {w : World} {g o c n : Nat} {es t : List Int} (h : Rest w (.slice (some ⟨g, o, none⟩) n c) (es ++ t)) : Rest w (.slice (some ⟨g, o + es.length, none⟩) t.length (c - es.length)) t := by
  obtain ⟨A, c', h1, h0, h2⟩ := h
  injection h1 with e1 e2 e3
  subst e1; subst e3
  rw [List.length_append] at h0
  refine ⟨_, _, rfl, by omega, fun k x hx => ?_⟩
  obtain ⟨k1, k2, g', o', k3, k4⟩ := h2 (es.length + k) x (by rw [List.getElem?_append_right (by omega)]; simpa using hx)
  injection k3 with k3
  injection k3 with e1 e2
  subst e1; subst e2
  exact ⟨k1, k2, _, _, rfl, by rw [Nat.add_assoc]; exact k4⟩
theorem Rest.restD {w : World} {g o c n : Nat} {es t : List Int} (h : Rest w (.slice (some ⟨g, o, none⟩) n c) (es ++ t)) (q m : Nat) (_hm : (es ++ t).length = m) : Rest (w.drewN q) (.slice (some ⟨g, o + es.length, none⟩) t.length (c - es.length)) t := h.off
theorem Rest.none (w : World) (A : Option Addr) (c : Nat) : Rest w (.slice A ([] : List Int).length c) [] := ⟨A, c, rfl, Nat.zero_le _, fun k x h => by simp at h⟩
/-- the cells of an instruction that was kept -/
theorem kept_at {w : World} {N : Nat} {v : Value} {l : List Ins} (h : w.ownsRow N 24 6 v l.length (rowsI l)) {i : Nat} (hi : i < l.length) :
    ∃ g c, v = .slice (some ⟨g, 0, none⟩) l.length c ∧ w.cell? ⟨g, i * 6, none⟩ = some (.int .i64 (l[i]'hi).op) ∧ w.cell? ⟨g, i * 6 + 1, none⟩ = some (.int .i64 (l[i]'hi).d) ∧
      w.cell? ⟨g, i * 6 + 2, none⟩ = some (.int .i64 (l[i]'hi).n) ∧ w.cell? ⟨g, i * 6 + 3, none⟩ = some (.int .i64 (l[i]'hi).m) ∧ w.cell? ⟨g, i * 6 + 4, none⟩ = some (.int .i64 (l[i]'hi).imm) ∧ w.cell? ⟨g, i * 6 + 5, none⟩ = some (.int .i64 (l[i]'hi).cond) := by
  obtain ⟨A, c, rfl, ⟨_, h0, _⟩ | ⟨g, cur, rfl, _⟩⟩ := own_slice h
  · omega
  · have cell : ∀ j, j < 6 → ∀ u, (rowI (l[i]'hi))[j]? = some u → w.cell? ⟨g, i * 6 + j, none⟩ = some u := by
      intro j hj u hu
      have := h.cells (g := g) rfl (i * 6 + j) u ((rowsI_at l i hi j hj).trans hu)
      have e1 : (⟨g, 0, none⟩ : Addr).add (i * 6 + j) = ⟨g, i * 6 + j, none⟩ := by unfold Addr.add; split <;> simp_all
      rwa [e1] at this
    exact ⟨g, c, rfl, cell 0 (by omega) _ rfl, cell 1 (by omega) _ rfl, cell 2 (by omega) _ rfl, cell 3 (by omega) _ rfl, cell 4 (by omega) _ rfl, cell 5 (by omega) _ rfl⟩
set_option maxHeartbeats 16000000 in
set_option maxRecDepth 100000 in
theorem thumbStreams_walk (A : Option Addr) (n c : Nat) (w : World) (hr : Vw.RowsOf w A n 6 (Vw.Viewed Try.prog w 23)) :
    Calls Try.prog 6 #[.slice A n c] w fun e w' => e = .returned (.bool true) ∧ Below w.heap.size w w' := by
  obtain ⟨i0, hi0, hz0, hz1, hz2⟩ := info_parts2 info_u16
  obtain ⟨i1, hi1, iz3, iz4, iz5⟩ := info_parts2 info_ins
  obtain ⟨N, hN⟩ : ∃ N, w.heap.size = N := ⟨_, rfl⟩
  have HN := Lib.hid hN
  have HR := Lib.hid hr
  clear hr
  rw [hN]
  clear hN
  have HS0 : Hid (Str N w w (.slice none 0 0) (.slice none 0 0) []) := ⟨World.ownsRow_nil _ _ _ _, World.ownsRow_nil _ _ _ _, by simp, Below.refl _ _⟩
  go_enter Try.func6, Try.ntmps6
  go_upto_block 0 with (fail)
  go_cut [3, 4] (fun vh vk wx => ∃ l : List Ins, l.length ≤ 40 ∧ Str N w wx vh vk l)
  case first =>
    go_wp2_with fail
    go_loopw [3, 4, 5] (fun vh vk i wr => ∃ (k : Nat) (l : List Ins) (Ah Ak : Option Addr) (eh ek : Nat), k ≤ n ∧ k ≤ 40 ∧ l.length ≤ k ∧ i = .int .i64 k ∧ vh = .slice Ah (hsI l).length eh ∧ vk = .slice Ak l.length ek ∧ Str N w wr (.slice Ah (hsI l).length eh) (.slice Ak l.length ek) l) (fun _ _ i _ => 40 - (intOf i).toNat)
    case atStart => exact ⟨0, [], none, none, 0, 0, Nat.zero_le _, Nat.zero_le _, Nat.zero_le _, rfl, rfl, rfl, HS0.out⟩
    case round =>
      obtain ⟨k, l, Ah, Ak, eh, ek, hkn, hk4, hlk, rfl, rfl, rfl, hs⟩ := hrel
      have HS := Lib.hid hs
      have HLK := Lib.hid hlk
      have hb := hs.b
      clear hs HS0 hlk
      by_cases hlt : k < n
      · by_cases h40 : (k : Int) < 40
        · cases A with
          | none => have := HR.out.none_ rfl; omega
          | some ad =>
            obtain ⟨b, o, s⟩ := ad
            obtain ⟨rfl, hbw, es, hl, hv, hc⟩ := HR.out.cell b o s k rfl hlt
            obtain ⟨x0, x1, x2, x3, x4, x5, rfl⟩ := viewed_raw hv
            have hN := HN.out
            have HO : Hid (Only (fun _ => False) w wr) := Only.of_below (by rw [hN]; exact hb)
            have c0 : wr.cell? ⟨b, o + k * 6, none⟩ = some (.int .i64 x0) := by rw [HO.out.cell (p := ⟨b, o + k * 6, none⟩) hbw id]; exact hc 0 (by omega)
            have c1 : wr.cell? ⟨b, o + k * 6 + 1, none⟩ = some (.int .i64 x1) := by rw [HO.out.cell (p := ⟨b, o + k * 6 + 1, none⟩) hbw id]; exact hc 1 (by omega)
            have c2 : wr.cell? ⟨b, o + k * 6 + 2, none⟩ = some (.int .i64 x2) := by rw [HO.out.cell (p := ⟨b, o + k * 6 + 2, none⟩) hbw id]; exact hc 2 (by omega)
            have c3 : wr.cell? ⟨b, o + k * 6 + 3, none⟩ = some (.int .i64 x3) := by rw [HO.out.cell (p := ⟨b, o + k * 6 + 3, none⟩) hbw id]; exact hc 3 (by omega)
            have c4 : wr.cell? ⟨b, o + k * 6 + 4, none⟩ = some (.int .i64 x4) := by rw [HO.out.cell (p := ⟨b, o + k * 6 + 4, none⟩) hbw id]; exact hc 4 (by omega)
            have c5 : wr.cell? ⟨b, o + k * 6 + 5, none⟩ = some (.int .i64 x5) := by rw [HO.out.cell (p := ⟨b, o + k * 6 + 5, none⟩) hbw id]; exact hc 5 (by omega)
            have HZ : Hid (N ≤ wr.heap.size) := by have := hb.size; unfold Hid; omega
            clear hl hv hc hbw hN HO hb
            have HKN := Lib.hid hkn; have HK4 := Lib.hid hk4
            clear hkn hk4
            go_wp2_with fail
            refine (ins_c x0 x1 x2 x3 x4 x5 _).mono ?_
            rintro e w1 ⟨x, rfl, hb1⟩
            have HS1 := Lib.hid ((HS.out.keep hb1 HZ.out).keep ((Below.refl _ _).alloc (Nat.le_refl _) (.cells #[.int .i64 x.op, .int .i64 x.d, .int .i64 x.n, .int .i64 x.m, .int .i64 x.imm, .int .i64 x.cond] 24)) (by have := hb1.size; have := HZ.out; omega))
            have KI := Lib.hid (Blk.new w1 24 #[.int .i64 x.op, .int .i64 x.d, .int .i64 x.n, .int .i64 x.m, .int .i64 x.imm, .int .i64 x.cond])
            have HZ1 : Hid (N ≤ w1.heap.size) := by have := hb1.size; have := HZ.out; unfold Hid; omega
            clear hb1 HS HZ c0 c1 c2 c3 c4 c5
            go_wp2_with fail
            refine (encode_c x _).mono ?_
            intro e w2 h
            cases hri : rightS x
            · rw [hri, if_neg (by simp)] at h
              obtain ⟨rfl, hb⟩ := h
              have hz : N ≤ (w1.alloc (.cells #[.int .i64 x.op, .int .i64 x.d, .int .i64 x.n, .int .i64 x.m, .int .i64 x.imm, .int .i64 x.cond] 24)).heap.size := by have := HZ1.out; simp; omega
              have HS2 := Lib.hid (HS1.out.keep hb hz)
              have HZ2 : Hid (N ≤ w2.heap.size) := by have := hb.size; unfold Hid; omega
              have k2 := KI.out.only (S := fun _ => False) (Only.of_below hb) id
              have c0 := k2.cell 0
              have c1 := k2.cell 1
              have c2 := k2.cell 2
              have c3 := k2.cell 3
              have c4 := k2.cell 4
              have c5 := k2.cell 5
              simp at c0 c1 c2 c3 c4 c5
              clear hb hz HS1 HZ1 KI k2
              go_wp2_with fail
              refine (right_c x _).mono ?_
              rintro e w3 ⟨rfl, hb⟩
              rw [hri]
              have HS3 := Lib.hid (HS2.out.keep hb HZ2.out)
              clear hb c0 c1 c2 c3 c4 c5
              go_wp2_with fail
              have := HLK.out
              go_roundw
              case rel => exact ⟨k + 1, l, Ah, Ak, eh, ek, by omega, by omega, by omega, by go_num, rfl, rfl, HS3.out⟩
              case measure => simp [intOf]; omega
            · rw [hri, if_pos rfl] at h
              obtain ⟨g, rfl, hg, hb⟩ := h
              have hz : N ≤ (w1.alloc (.cells #[.int .i64 x.op, .int .i64 x.d, .int .i64 x.n, .int .i64 x.m, .int .i64 x.imm, .int .i64 x.cond] 24)).heap.size := by have := HZ1.out; simp; omega
              have HS2 := Lib.hid (HS1.out.keep hb hz)
              have HZ2 : Hid (N ≤ w2.heap.size) := by have := hb.size; unfold Hid; omega
              have k2 := KI.out.only (S := fun _ => False) (Only.of_below hb) id
              have KI2 := Lib.hid k2
              have KG2 := Lib.hid hg
              have HRI := Lib.hid hri
              have c0 := k2.cell 0
              have c1 := k2.cell 1
              have c2 := k2.cell 2
              have c3 := k2.cell 3
              have c4 := k2.cell 4
              have c5 := k2.cell 5
              simp at c0 c1 c2 c3 c4 c5
              clear hb hz HS1 HZ1 KI k2 hg hri
              go_wp2_with fail
              refine (right_c x _).mono ?_
              rintro e w3 ⟨rfl, hb⟩
              rw [HRI.out]
              have HS3 := Lib.hid (HS2.out.keep hb HZ2.out)
              have hz3 : N ≤ w3.heap.size := by have := hb.size; have := HZ2.out; omega
              have KI3 := Lib.hid (KI2.out.only (S := fun _ => False) (Only.of_below hb) id)
              have kg3 := KG2.out.only (S := fun _ => False) (Only.of_below hb) id
              obtain ⟨er1, er2⟩ := enc_range x HRI.out
              have HSN := Lib.hid (hsI_snoc l x)
              have HRN := Lib.hid (rowsI_snoc l x)
              have hl2 := hsI_len l HS3.out.r
              have HL2 := Lib.hid hl2
              have el2 : (encL x).length ≤ 2 := by omega
              have HW3 : Hid (Src w3 (some ⟨g, 0, none⟩) (encL x).length 1 ((encL x).map (Value.int .u16))) := by
                refine ⟨by simp, by simp, fun ad had j u hu => ?_, fun u hu => ?_⟩
                · injection had with had; subst had
                  rw [Vw.add_none, kg3.cell (0 + j), ← hu]; simp
                · rw [List.mem_map] at hu; obtain ⟨y, _, rfl⟩ := hu; rfl
              clear hb c0 c1 c2 c3 c4 c5 kg3 KG2 KI2 HS2 HZ2 er1 er2
              have hlk := HLK.out
              obtain ⟨es, hes⟩ : ∃ es, encL x = es := ⟨_, rfl⟩
              rw [hes] at HW3 el2 HSN ⊢
              go_wp2_with (at_builtin; refine wpList_append_at _ rfl (.tmp 40) (.tmp 41) _ rfl N 37 i0 _ 1 2 Try.underlying26 hi0 hz0 hz1 hz2 rfl (by omega) _ (hsI l).length _ rfl HS3.out.h (some ⟨g, 0, none⟩) es.length es.length _ rfl HW3.out (by simp) (by unfold maxLen; omega) (by omega) hz3 ?_)
              intro A4 n4 w4 hown4 hg4 hn4
              have hO4 := (Only.refl (fun k => (Value.slice Ah (hsI l).length eh).ownBlock = some k) w3).grown hg4 (fun k hk => .inl hk)
              have hb4 : Below N w3 w4 := hO4.below hz3 (own_base HS3.out.h)
              have hk4 := own_only HS3.out.k hO4 (own_apart HS3.out.h HS3.out.k)
              have ki4 := KI3.out.only hO4 (own_ne_blk HS3.out.h KI3.out)
              have HH4 := Lib.hid hown4
              have HK4' := Lib.hid hk4
              have HB4 : Hid (Below N w w4) := HS3.out.b.trans hb4
              have KI4 := Lib.hid ki4
              have hz4 : N ≤ w4.heap.size := by have := hb4.size; omega
              have HAP := Lib.hid (own_apart hown4 hk4)
              have c0 := ki4.cell 0
              have c1 := ki4.cell 1
              have c2 := ki4.cell 2
              have c3 := ki4.cell 3
              have c4 := ki4.cell 4
              have c5 := ki4.cell 5
              simp at c0 c1 c2 c3 c4 c5
              clear hown4 hg4 hn4 hO4 hb4 hk4 ki4
              go_wp2_with (at_builtin; refine wpList_append_at _ rfl (.tmp 43) (.tmp 45) _ rfl N 24 i1 _ 6 48 Try.underlying44 hi1 iz3 iz4 iz5 rfl (by omega) _ l.length (rowsI l) rfl (own_only HK4'.out ((Only.refl (fun _ => False) w4).alloc _) (fun _ _ => id)) (some ⟨w4.heap.size, 0, none⟩) 1 1 _ rfl (Src.block w4 24 6 [.int .i64 x.op, .int .i64 x.d, .int .i64 x.n, .int .i64 x.m, .int .i64 x.imm, .int .i64 x.cond] rfl (by intro u hu; simp at hu; rcases hu with rfl | rfl | rfl | rfl | rfl | rfl <;> rfl) (0, 0)) (by simp) (by unfold maxLen; omega) (by omega) (by simp; omega) ?_)
              intro A5 n5 w5 hown5 hg5 hn5
              have hO5 := ((Only.refl (fun k => (Value.slice Ak l.length ek).ownBlock = some k) w4).alloc (.cells #[.int .i64 x.op, .int .i64 x.d, .int .i64 x.n, .int .i64 x.m, .int .i64 x.imm, .int .i64 x.cond] 24)).grown hg5 (fun k hk => .inl hk)
              have hb5 : Below N w4 w5 := hO5.below hz4 (own_base HK4'.out)
              have hh5 := own_only HH4.out hO5 (fun b hb hk => HAP.out b hk hb)
              have HS5 : Hid (Str N w w5 (.slice A4 (hsI (l ++ [x])).length n4) (.slice A5 (l ++ [x]).length n5) (l ++ [x])) := by
                refine ⟨?_, ?_, ?_, HB4.out.trans hb5⟩
                · rw [HSN.out, List.length_append, List.map_append]; exact hh5
                · rw [HRN.out, List.length_append]; exact hown5
                · intro i hi
                  rw [List.mem_append] at hi
                  rcases hi with hi | hi
                  · exact HS3.out.r i hi
                  · simp at hi; subst hi; exact HRI.out
              clear hown5 hg5 hn5 hO5 hb5 hh5
              go_wp2_with fail
              have hl := HLK.out
              go_roundw
              case rel => exact ⟨k + 1, l ++ [x], A4, A5, n4, n5, by omega, by omega, by simp; omega, by go_num, by rw [HSN.out, List.length_append], by rw [List.length_append]; rfl, HS5.out⟩
              case measure => simp [intOf]; omega
        · go_wp2_with fail
          go_meet
          exact ⟨l, by have := HLK.out; omega, HS.out⟩
      · go_wp2_with fail
        go_meet
        exact ⟨l, by have := HLK.out; omega, HS.out⟩
  case rest =>
    obtain ⟨l, hl40, hs⟩ := hcut
    clear HS0
    have HR0 := Lib.hid (own_rest hs.h (hsI_range l hs.r))
    have HK0 := Lib.hid hs.k
    have HB0 := Lib.hid hs.b
    have HRR := Lib.hid hs.r
    obtain ⟨A1, c1, rfl, _⟩ := own_slice hs.k
    clear hs
    go_wp2_with fail
    go_loopw [3, 9] (fun s i wx => ∃ j : Nat, j ≤ l.length ∧ i = .int .i64 j ∧ Rest wx s (hsI (l.drop j)) ∧ wx.ownsRow N 24 6 (.slice A1 l.length c1) l.length (rowsI l) ∧ Below N w wx) (fun _ i _ => l.length - (intOf i).toNat)
    case atStart => exact ⟨0, Nat.zero_le _, rfl, HR0.out, HK0.out, HB0.out⟩
    case round =>
      clear HR0 HK0 HB0
      obtain ⟨j, hj, rfl, hrs, hks, hbs⟩ := hrel
      by_cases hlt : j < l.length
      · have hrx := HRR.out _ (List.getElem_mem hlt)
        obtain ⟨gk, ck, hsl, k0, k1, k2, k3, k4, k5⟩ := kept_at hks hlt
        injection hsl with hA1 _ hA3
        subst hA1; subst hA3
        have hdr : hsI (l.drop j) = encL (l[j]'hlt) ++ hsI (l.drop (j + 1)) := by
          rw [List.drop_eq_getElem_cons hlt]; rfl
        rw [hdr] at hrs
        generalize l[j]'hlt = x at *
        obtain ⟨t, ht⟩ : ∃ t, hsI (l.drop (j + 1)) = t := ⟨_, rfl⟩
        rw [ht] at hrs
        have HT := Lib.hid ht
        clear hdr ht
        obtain ⟨m, hm, hm2⟩ : ∃ m : Nat, (encL x).length = m ∧ (m = 1 ∨ m = 2) := by
          have := (enc_range x hrx).2
          exact ⟨_, rfl, by omega⟩
        have hdec := dec_enc x hrx t
        rw [hm] at hdec
        obtain ⟨es, hes⟩ : ∃ es, encL x = es := ⟨_, rfl⟩
        rw [hes] at hm hrs hdec
        clear hes hrx
        obtain ⟨A, c, rfl, hcap, hcell⟩ := hrs
        obtain ⟨gh, oh, rfl⟩ : ∃ gh oh, A = some ⟨gh, oh, none⟩ := by
          cases es with
          | nil => simp at hm; omega
          | cons a es =>
            obtain ⟨_, _, g, o, h, _⟩ := hcell 0 a rfl
            exact ⟨g, o, h⟩
        have HRS : Hid (Rest _ (.slice (some ⟨gh, oh, none⟩) (es ++ t).length c) (es ++ t)) := ⟨_, _, rfl, hcap, hcell⟩
        have HDEC := Lib.hid hdec
        have HM := Lib.hid hm
        have HKS := Lib.hid hks; have HBS := Lib.hid hbs
        clear hdec hcell hks hbs
        obtain ⟨L, hL⟩ : ∃ L, (es ++ t).length = L := ⟨_, rfl⟩
        have hLm : L = m + t.length := by rw [← hL, List.length_append, hm]
        have HLM := Lib.hid hLm
        have hLge : m ≤ L := by omega
        rw [hL] at hcap
        have HCAP := Lib.hid hcap
        clear hLm
        have HRS2 := Lib.hid HRS.out
        have hHRS := HRS.out
        rw [hL] at hHRS ⊢
        have HRS3 := Lib.hid hHRS
        clear HRS HRS2 hHRS
        have HL := Lib.hid hL
        clear hL hm
        rcases hm2 with rfl | rfl
        · go_wp2_with fail
          refine (decode_c HRS3.out.hw).mono ?_
          intro e w6 h
          rw [HDEC.out] at h
          obtain ⟨rfl, hb⟩ := h
          have hb1 := hb.trans ((Below.refl _ _).alloc hb.size (.cells #[.int .i64 x.op, .int .i64 x.d, .int .i64 x.n, .int .i64 x.m, .int .i64 x.imm, .int .i64 x.cond] 24))
          have HB6 := Lib.hid (HBS.out.trans (hb1.mono (by have := HBS.out.size; have := HN.out; omega)))
          have HK6 := Lib.hid (own_only HKS.out (Only.of_below (S := fun _ => False) hb1) (fun _ _ => id))
          have HR6 := Lib.hid (HRS3.out.keep hb1)
          have KX := Blk.new w6 24 #[.int .i64 x.op, .int .i64 x.d, .int .i64 x.n, .int .i64 x.m, .int .i64 x.imm, .int .i64 x.cond]
          have c0 := KX.cell 0
          have c1 := KX.cell 1
          have c2 := KX.cell 2
          have c3 := KX.cell 3
          have c4 := KX.cell 4
          have c5 := KX.cell 5
          simp at c0 c1 c2 c3 c4 c5
          have hO := Only.of_below (S := fun _ => False) hb1
          have hgk0 := World.block_lt_of_cell? _ _ k0
          have j0 := (hO.cell (p := ⟨gk, j * 6, none⟩) hgk0 id).trans k0
          have j1 := (hO.cell (p := ⟨gk, j * 6 + 1, none⟩) hgk0 id).trans k1
          have j2 := (hO.cell (p := ⟨gk, j * 6 + 2, none⟩) hgk0 id).trans k2
          have j3 := (hO.cell (p := ⟨gk, j * 6 + 3, none⟩) hgk0 id).trans k3
          have j4 := (hO.cell (p := ⟨gk, j * 6 + 4, none⟩) hgk0 id).trans k4
          have j5 := (hO.cell (p := ⟨gk, j * 6 + 5, none⟩) hgk0 id).trans k5
          clear k0 k1 k2 k3 k4 k5 hb hb1 hO hgk0 KX HRS3 HKS HBS
          go_wp2_with fail
          go_quiet (fail)
          go_wp2_with fail
          all_goals
            go_roundw
            case measure => simp [intOf]; omega
            case rel =>
              first
              | refine ⟨j + 1, by omega, by go_num, ?_, own_only HK6.out ((Only.refl (fun _ => False) _).drewN _) (fun _ _ => id), belowN HB6.out _⟩
              | refine ⟨_, _, _, ⟨j + 1, by omega, rfl, ?_, own_only HK6.out ((Only.refl (fun _ => False) _).drewN _) (fun _ _ => id), belowN HB6.out _⟩, rfl, rfl, by go_num⟩
              rw [HT.out]
              have hLt : L - 1 = t.length := by have := HLM.out; omega
              rw [hLt]
              by_cases hcm : c = 1
              · have ht : t = [] := List.eq_nil_of_length_eq_zero (by have := HLM.out; have := HCAP.out; omega)
                subst ht
                exact Rest.none _ _ _
              · have hr := HR6.out.restD nq L (by rw [List.length_append, HM.out, HLM.out])
                rw [HM.out] at hr
                rw [if_neg hcm]
                exact hr
        · go_wp2_with fail
          refine (decode_c HRS3.out.hw).mono ?_
          intro e w6 h
          rw [HDEC.out] at h
          obtain ⟨rfl, hb⟩ := h
          have hb1 := hb.trans ((Below.refl _ _).alloc hb.size (.cells #[.int .i64 x.op, .int .i64 x.d, .int .i64 x.n, .int .i64 x.m, .int .i64 x.imm, .int .i64 x.cond] 24))
          have HB6 := Lib.hid (HBS.out.trans (hb1.mono (by have := HBS.out.size; have := HN.out; omega)))
          have HK6 := Lib.hid (own_only HKS.out (Only.of_below (S := fun _ => False) hb1) (fun _ _ => id))
          have HR6 := Lib.hid (HRS3.out.keep hb1)
          have KX := Blk.new w6 24 #[.int .i64 x.op, .int .i64 x.d, .int .i64 x.n, .int .i64 x.m, .int .i64 x.imm, .int .i64 x.cond]
          have c0 := KX.cell 0
          have c1 := KX.cell 1
          have c2 := KX.cell 2
          have c3 := KX.cell 3
          have c4 := KX.cell 4
          have c5 := KX.cell 5
          simp at c0 c1 c2 c3 c4 c5
          have hO := Only.of_below (S := fun _ => False) hb1
          have hgk0 := World.block_lt_of_cell? _ _ k0
          have j0 := (hO.cell (p := ⟨gk, j * 6, none⟩) hgk0 id).trans k0
          have j1 := (hO.cell (p := ⟨gk, j * 6 + 1, none⟩) hgk0 id).trans k1
          have j2 := (hO.cell (p := ⟨gk, j * 6 + 2, none⟩) hgk0 id).trans k2
          have j3 := (hO.cell (p := ⟨gk, j * 6 + 3, none⟩) hgk0 id).trans k3
          have j4 := (hO.cell (p := ⟨gk, j * 6 + 4, none⟩) hgk0 id).trans k4
          have j5 := (hO.cell (p := ⟨gk, j * 6 + 5, none⟩) hgk0 id).trans k5
          clear k0 k1 k2 k3 k4 k5 hb hb1 hO hgk0 KX HRS3 HKS HBS
          go_wp2_with fail
          go_quiet (fail)
          go_wp2_with fail
          all_goals
            go_roundw
            case measure => simp [intOf]; omega
            case rel =>
              first
              | refine ⟨j + 1, by omega, by go_num, ?_, own_only HK6.out ((Only.refl (fun _ => False) _).drewN _) (fun _ _ => id), belowN HB6.out _⟩
              | refine ⟨_, _, _, ⟨j + 1, by omega, rfl, ?_, own_only HK6.out ((Only.refl (fun _ => False) _).drewN _) (fun _ _ => id), belowN HB6.out _⟩, rfl, rfl, by go_num⟩
              rw [HT.out]
              have hLt : L - 2 = t.length := by have := HLM.out; omega
              rw [hLt]
              by_cases hcm : c = 2
              · have ht : t = [] := List.eq_nil_of_length_eq_zero (by have := HLM.out; have := HCAP.out; omega)
                subst ht
                exact Rest.none _ _ _
              · have hr := HR6.out.restD nq L (by rw [List.length_append, HM.out, HLM.out])
                rw [HM.out] at hr
                rw [if_neg hcm]
                exact hr
      · have hjl : j = l.length := by omega
        subst hjl
        rw [List.drop_length] at hrs
        obtain ⟨A, c, rfl, _, _⟩ := hrs
        have HBS := Lib.hid hbs
        clear hks hbs
        go_wp2_with fail
        refine (known_c _).mono ?_
        rintro e w7 ⟨rfl, hb⟩
        have HB7 := Lib.hid (HBS.out.trans (hb.mono (by have := HBS.out.size; have := HN.out; omega)))
        clear hb
        go_wp2_with fail
        go_ret
        exact ⟨rfl, HB7.out⟩
theorem thumbStreams_top (v0 : Value) (w : World) (u0 : Vw.Arg Try.prog w 43 v0) :
    Calls Try.prog 6 #[v0] w fun e w' => e = .returned (.bool true) ∧ Below w.heap.size w w' := by
  obtain ⟨A, n, c, rfl, _, _, _, hr⟩ := u0.rows Try.underlying43 cells_raw (by omega)
  exact thumbStreams_walk A n c w hr
end Go.Proofs.Ytpcjkllhieiiiaa
