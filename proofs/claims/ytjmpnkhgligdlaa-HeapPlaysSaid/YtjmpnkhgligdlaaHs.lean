/- Heaps as lists of arrays: what is used, what fits; a heap in memory together with its list. No program in sight. -/
import Derived.Test.YtjmpnkhgligdlaaHv
namespace Go.Proofs.Hv
open Go.RowKit Go.Proofs.On
def sizes : List Ar → Int
  | [] => 0
  | a :: l => (8 + (a.data.length : Int)) + sizes l
def used (L : List Ar) : Int := sizes (L.drop 2)
theorem sizes_append (l k : List Ar) : sizes (l ++ k) = sizes l + sizes k := by
  induction l with
  | nil => simp [sizes]
  | cons a l ih => simp only [List.cons_append, sizes, ih]; omega
theorem sizes_snoc (l : List Ar) (a : Ar) : sizes (l ++ [a]) = sizes l + (8 + (a.data.length : Int)) := by
  rw [sizes_append]; simp [sizes]
theorem sizes_ge (l : List Ar) : 8 * (l.length : Int) ≤ sizes l := by
  induction l with
  | nil => simp [sizes]
  | cons a l ih => simp only [sizes, List.length_cons]; omega
theorem sizes_take (l : List Ar) (k : Nat) (a : Ar) (h : l[k]? = some a) : sizes (l.take (k + 1)) = sizes (l.take k) + (8 + (a.data.length : Int)) := by
  obtain ⟨hk, e⟩ := List.getElem?_eq_some_iff.mp h
  rw [List.take_succ_eq_append_getElem hk, sizes_snoc, e]
theorem sizes_take_le (l : List Ar) (k : Nat) : 0 ≤ sizes (l.take k) ∧ sizes (l.take k) ≤ sizes l := by
  have h := sizes_append (l.take k) (l.drop k)
  rw [List.take_append_drop] at h
  have h1 := sizes_ge (l.take k); have h2 := sizes_ge (l.drop k); omega
theorem sizes_set {l : List Ar} {i : Nat} {a b : Ar} (h : l[i]? = some a) (hd : b.data.length = a.data.length) : sizes (l.set i b) = sizes l := by
  induction l generalizing i with
  | nil => simp at h
  | cons y l ih =>
    cases i with
    | zero => simp at h; subst h; simp [sizes, hd]
    | succ i => simp at h; simp [sizes, ih h]
theorem used_set {L : List Ar} {i : Nat} {a b : Ar} (h : L[i]? = some a) (hd : i < 2 ∨ b.data.length = a.data.length) : used (L.set i b) = used L := by
  unfold used
  rw [List.drop_set]
  by_cases hi : i < 2
  · rw [if_pos hi]
  · rw [if_neg hi]
    refine sizes_set (a := a) ?_ (by rcases hd with h | h; exact absurd h hi; exact h)
    rw [List.getElem?_drop, show 2 + (i - 2) = i by omega]; exact h
/-- what may be made -/
def Fits (sz : Int) (L : List Ar) (label life n : Int) : Prop := (label = 3 ∨ label = 4) ∧ 0 ≤ life ∧ life ≤ 2 ∧ 0 ≤ n ∧ n ≤ 64 ∧ 8 + n ≤ sz - used L
def fresh (owner label life : Int) (share : Bool) (n : Int) : Ar := ⟨owner, label, life, share, List.replicate n.toNat 0⟩
structure Good (sz : Int) (L : List Ar) : Prop where
  two : 2 ≤ L.length
  room : used L ≤ sz
  most : sz ≤ 4096
  data : ∀ a ∈ L, a.data.length ≤ 64
  life : ∀ a ∈ L, 0 ≤ a.life ∧ a.life ≤ 2
  bufs : ∀ (i : Nat) a, i < 2 → L[i]? = some a → a.life = 0
theorem Good.len {sz : Int} {L : List Ar} (h : Good sz L) : L.length ≤ 514 := by
  have h1 := sizes_ge (L.drop 2)
  have h2 := h.room
  have h3 := h.most
  have h4 := h.two
  unfold used at h2
  rw [List.length_drop] at h1
  omega
theorem used_ge {L : List Ar} : 0 ≤ used L := by have := sizes_ge (L.drop 2); unfold used; omega
theorem used_push {L : List Ar} (h : 2 ≤ L.length) (a : Ar) : used (L ++ [a]) = used L + (8 + (a.data.length : Int)) := by
  unfold used; rw [List.drop_append_of_le_length h, sizes_snoc]
theorem Good.push {sz : Int} {L : List Ar} (h : Good sz L) {owner label life : Int} {share : Bool} {n : Int} (hf : Fits sz L label life n) : Good sz (L ++ [fresh owner label life share n]) := by
  obtain ⟨_, hl0, hl1, h0, h1, h2⟩ := hf
  refine ⟨by simp; have := h.two; omega, ?_, h.most, ?_, ?_, ?_⟩
  · rw [used_push h.two]; simp [fresh]; omega
  · intro a ha
    rcases List.mem_append.mp ha with ha | ha
    · exact h.data a ha
    · simp at ha; subst ha; simp [fresh]; omega
  · intro a ha
    rcases List.mem_append.mp ha with ha | ha
    · exact h.life a ha
    · simp at ha; subst ha; exact ⟨hl0, hl1⟩
  · intro i a hi ha
    rw [List.getElem?_append_left (by have := h.two; omega)] at ha
    exact h.bufs i a hi ha
theorem Good.set {sz : Int} {L : List Ar} (h : Good sz L) {i : Nat} {a b : Ar} (hi : L[i]? = some a) (hd : i < 2 ∨ b.data.length = a.data.length) (hb : b.data.length ≤ 64) (hlf : b.life = a.life) : Good sz (L.set i b) := by
  refine ⟨by rw [List.length_set]; exact h.two, by rw [used_set hi hd]; exact h.room, h.most, ?_, ?_, ?_⟩
  · intro x hx
    rcases List.mem_or_eq_of_mem_set hx with hx | rfl
    · exact h.data x hx
    · exact hb
  · intro x hx
    rcases List.mem_or_eq_of_mem_set hx with hx | rfl
    · exact h.life x hx
    · rw [hlf]; exact h.life a (List.mem_of_getElem? hi)
  · intro j x hj hx
    by_cases e : i = j
    · subst e
      rw [List.getElem?_set_self (List.getElem?_eq_some_iff.mp hi).1] at hx
      injection hx with hx; subst hx; rw [hlf]; exact h.bufs i a hj hi
    · rw [List.getElem?_set_ne e] at hx; exact h.bufs j x hj hx
/-- a heap in memory, its arrays L, its blocks among F -/
def At (u arrT ty : TypeId) (w : World) (B p : Nat) (sz : Int) (L : List Ar) (F : Nat → Prop) : Prop :=
  ∃ V R, HpV u arrT ty w B p sz V R ∧ Apart R ∧ R.map Prod.fst = L ∧ Good sz L ∧ (∀ k, Foot p V R k → F k) ∧ ∀ k, F k → B ≤ k ∧ k < w.heap.size
/-- blocks of before, and new ones -/
def More (F : Nat → Prop) (w w' : World) (k : Nat) : Prop := F k ∨ (w.heap.size ≤ k ∧ k < w'.heap.size)
section
variable {u arrT ty : TypeId} {w w' : World} {B p : Nat} {sz : Int} {L : List Ar} {F G : Nat → Prop}
theorem At.keep {S : Nat → Prop} (h : At u arrT ty w B p sz L F) (hO : Only S w w') (hn : ∀ k, F k → ¬ S k) : At u arrT ty w' B p sz L F := by
  obtain ⟨V, R, h1, h2, h3, h4, h5, h6⟩ := h
  exact ⟨V, R, h1.keep hO (fun k hk => hn k (h5 k hk)), h2, h3, h4, h5, fun k hk => ⟨(h6 k hk).1, Nat.lt_of_lt_of_le (h6 k hk).2 hO.size⟩⟩
theorem At.below (h : At u arrT ty w B p sz L F) (hb : Below w.heap.size w w') : At u arrT ty w' B p sz L F :=
  h.keep (S := fun _ => False) (Only.of_below hb) (fun _ _ h => h)
theorem At.drewN (h : At u arrT ty w B p sz L F) (n : Nat) : At u arrT ty (w.drewN n) B p sz L F :=
  h.keep (S := fun _ => False) ((Only.refl _ w).drewN n) (fun _ _ h => h)
theorem At.good (h : At u arrT ty w B p sz L F) : Good sz L := by obtain ⟨_, _, _, _, _, h, _⟩ := h; exact h
theorem At.lt (h : At u arrT ty w B p sz L F) {k : Nat} (hk : F k) : B ≤ k ∧ k < w.heap.size := by obtain ⟨_, _, _, _, _, _, _, h⟩ := h; exact h k hk
theorem At.self (h : At u arrT ty w B p sz L F) : F p := by obtain ⟨_, _, _, _, _, _, h, _⟩ := h; exact h p (.inl rfl)
theorem At.mono (h : At u arrT ty w B p sz L F) (hF : ∀ k, F k → G k) (hG : ∀ k, G k → B ≤ k ∧ k < w.heap.size) : At u arrT ty w B p sz L G := by
  obtain ⟨V, R, h1, h2, h3, h4, h5, h6⟩ := h
  exact ⟨V, R, h1, h2, h3, h4, fun k hk => hF k (h5 k hk), hG⟩
/-- opened: the row's value, the arrays with their bytes' values -/
theorem At.open (h : At u arrT ty w B p sz L F) : ∃ q c R, HpV u arrT ty w B p sz (.slice (some ⟨q, 0, none⟩) L.length c) R ∧ Apart R ∧ R.map Prod.fst = L ∧ R.length = L.length ∧ Good sz L ∧
    (∀ k, Foot p (.slice (some ⟨q, 0, none⟩) L.length c) R k → F k) ∧ (∀ k, F k → B ≤ k ∧ k < w.heap.size) ∧ L.length ≤ c ∧ c ≤ maxLen ∧ q < w.heap.size ∧ p < w.heap.size := by
  obtain ⟨V, R, h1, h2, h3, h4, h5, h6⟩ := h
  have hl : R.length = L.length := by rw [← h3, List.length_map]
  obtain ⟨q, c, rfl, hc, _, hq, hm⟩ := h1.vform (by rintro rfl; have := h4.two; simp at hl; omega)
  rw [hl] at h1 h5 hc
  exact ⟨q, c, R, h1, h2, h3, hl, h4, h5, h6, hc, hm, hq, h1.blk.lt⟩
end
theorem map_get {R : List (Ar × Value)} {L : List Ar} (h : R.map Prod.fst = L) {i : Nat} {a : Ar} (ha : L[i]? = some a) : ∃ D, R[i]? = some (a, D) := by
  rw [← h, List.getElem?_map, Option.map_eq_some_iff] at ha
  obtain ⟨⟨x, D⟩, h1, h2⟩ := ha
  simp at h2; subst h2; exact ⟨D, h1⟩
theorem map_set' {R : List (Ar × Value)} {L : List Ar} (h : R.map Prod.fst = L) (i : Nat) (a : Ar) (D : Value) : (R.set i (a, D)).map Prod.fst = L.set i a := by
  rw [List.map_set, h]
/-- another row, other bytes: the heap's own block is turned last -/
theorem HpV.turn {u arrT ty : TypeId} {w w1 : World} {B p : Nat} {sz : Int} {V V' : Value} {R R' : List (Ar × Value)} (h : HpV u arrT ty w B p sz V R) {S : Nat → Prop} (hO : Only S w w1) (hp : ¬ S p)
    (hrow : w1.ownsRow B arrT 5 V' R'.length (flat R')) (hd : ∀ (i : Nat) x, R'[i]? = some x → Dw u w1 B x.2 x.1.data) (h1 : V'.ownBlock ≠ some p) (h2 : ∀ (i : Nat) (x : Ar × Value) k, R'[i]? = some x → dB x.2 x.1.data = some k → k ≠ p) :
    HpV u arrT ty (w1.setCell ⟨p, 1, none⟩ V') B p sz V' R' := by
  have hb := h.blk.only hO hp
  refine ⟨h.ge, ?_, own_only hrow (only_set _ _ _ _) (fun k hk e => h1 (by rw [hk, e])), fun i x hx => (hd i x hx).keep (only_set _ _ _ _) (fun k hk e => h2 i x k hx hk e)⟩
  have := hb.set 1 V'; simpa using this
theorem setCell_size (w : World) (p : Addr) (v : Value) : (w.setCell p v).heap.size = w.heap.size := by simp [World.setCell]
/-- an array more, in a heap with its list -/
theorem At.push {u arrT ty : TypeId} {w w2 w3 : World} {B p : Nat} {sz : Int} {L : List Ar} {F : Nat → Prop} {V V' D : Value} {R : List (Ar × Value)} (hne : arrT ≠ ty) (hdt : u ≠ ty) (hda : u ≠ arrT)
    (h : HpV u arrT ty w2 B p sz V R) (ha : Apart R) (hm : R.map Prod.fst = L) (hF : ∀ k, Foot p V R k → F k) (hFb : ∀ k, F k → B ≤ k ∧ k < w.heap.size) (hb : Below w.heap.size w w2) (a : Ar) (hg : Good sz (L ++ [a])) {o1 o2 : Obj}
    (hD : Dw u (w2.alloc o1) w2.heap.size D a.data) (hrow : w3.ownsRow B arrT 5 V' (R.length + 1) (flat R ++ cells5 (a, D))) (hgr : ((w2.alloc o1).alloc o2).grownBy w3 V.ownBlock)
    (hat : V'.ownBlock = V.ownBlock ∨ V'.ownBlock = some ((w2.alloc o1).alloc o2).heap.size) :
    At u arrT ty (w3.setCell ⟨p, 1, none⟩ V') B p sz (L ++ [a]) (More F w (w3.setCell ⟨p, 1, none⟩ V')) ∧ Only F w (w3.setCell ⟨p, 1, none⟩ V') := by
  have hsz := hb.size
  have h' : HpV u arrT ty ((w2.alloc o1).alloc o2) B p sz V R := h.keep (S := fun _ => False) (((Only.refl _ w2).alloc o1).alloc o2) (fun _ _ h => h)
  have hBw : B ≤ w2.heap.size := by have := h.ge; have := h.blk.lt; omega
  have hD' : Dw u ((w2.alloc o1).alloc o2) B D a.data := (hD.mono hBw).keep (S := fun _ => False) ((Only.refl _ _).alloc o2) (fun _ _ h => h)
  have hDk : ∀ k, dB D a.data = some k → w2.heap.size ≤ k := fun k hk => (hD.lt hk).1
  obtain ⟨k1, k2, k3, k4⟩ := h'.push (w1 := w3) (V' := V') hne hdt hda ha a hD' (fun k hk hf => by have := hDk k hk; have := (h.lt hf).2; omega) (by rw [flat_append]; simpa [flat] using hrow) hgr
    (by rcases hat with h | h; exact .inl h; exact .inr ⟨_, h, Nat.le_refl _⟩) (fun k hk e => by have := hDk k hk; have := h.blk.lt; omega)
  have hO : Only F w (w3.setCell ⟨p, 1, none⟩ V') := by
    refine ((((Only.of_below hb).alloc o1).alloc o2 : Only F w _)).trans k4 (fun k _ hk => ?_)
    rcases hk with rfl | hk
    · exact hF k (.inl rfl)
    · exact hF k (.inr (.inl hk))
  have hsz3 := hO.size
  refine ⟨⟨V', _, k1, k2, by rw [List.map_append, hm]; rfl, hg, fun k hk => ?_, fun k hk => ?_⟩, hO⟩
  · have hlt := (k1.lt hk).2
    rcases k3 k hk with h1 | h1 | h1
    · exact .inl (hF k h1)
    · exact .inr ⟨by have := hDk k h1; omega, hlt⟩
    · exact .inr ⟨by simp at h1; omega, hlt⟩
  · rcases hk with h1 | ⟨h1, h2⟩
    · have := hFb k h1; exact ⟨this.1, by omega⟩
    · have := h.ge
      have h3 := hF p (.inl rfl)
      have := hFb p h3
      exact ⟨by omega, h2⟩
/-- arrays some of which are as they were, the others' bytes lie in new blocks -/
structure Some' (R R' : List (Ar × Value)) (n : Nat) : Prop where
  old : ∀ (i : Nat) x, R'[i]? = some x → R[i]? = some x ∨ ∀ k, dB x.2 x.1.data = some k → n ≤ k
  one : ∀ (i j : Nat) x y k, R'[i]? = some x → R'[j]? = some y → dB x.2 x.1.data = some k → dB y.2 y.1.data = some k → n ≤ k → i = j
theorem Some'.push {R : List (Ar × Value)} {n : Nat} {a : Ar} {D : Value} (hR : ∀ (i : Nat) x k, R[i]? = some x → dB x.2 x.1.data = some k → k < n) (hD : ∀ k, dB D a.data = some k → n ≤ k) : Some' R (R ++ [(a, D)]) n := by
  have hget : ∀ (i' : Nat) (y : Ar × Value), (R ++ [(a, D)])[i']? = some y → (i' = R.length ∧ y = (a, D)) ∨ R[i']? = some y := by
    intro i' y hy
    rcases Nat.lt_or_ge i' R.length with hlt | hge
    · rw [List.getElem?_append_left hlt] at hy; exact .inr hy
    · rw [List.getElem?_append_right hge] at hy
      have : i' - R.length = 0 := by
        rcases Nat.eq_zero_or_pos (i' - R.length) with h | h
        · exact h
        · rw [List.getElem?_eq_none (by simp; omega)] at hy; cases hy
      rw [this] at hy; simp at hy; exact .inl ⟨by omega, hy.symm⟩
  refine ⟨fun i x hx => ?_, fun i j x y k hx hy h1 h2 hk => ?_⟩
  · rcases hget i x hx with ⟨rfl, rfl⟩ | h
    · exact .inr hD
    · exact .inl h
  · rcases hget i x hx with ⟨rfl, rfl⟩ | h
    · rcases hget j y hy with ⟨rfl, rfl⟩ | h'
      · rfl
      · have := hR j y k h' h2; omega
    · have := hR i x k h h1; omega
theorem Some'.set {R : List (Ar × Value)} {n i : Nat} {a : Ar} {D : Value} (hR : ∀ (i : Nat) x k, R[i]? = some x → dB x.2 x.1.data = some k → k < n) (hD : ∀ k, dB D a.data = some k → n ≤ k) : Some' R (R.set i (a, D)) n := by
  have hget : ∀ (i' : Nat) (y : Ar × Value), (R.set i (a, D))[i']? = some y → (i' = i ∧ y = (a, D)) ∨ R[i']? = some y := by
    intro i' y hy
    by_cases e : i' = i
    · subst e
      rw [List.getElem?_set] at hy
      simp at hy
      exact .inl ⟨rfl, hy.2.symm⟩
    · rw [List.getElem?_set_ne (by omega)] at hy; exact .inr hy
  refine ⟨fun j x hx => ?_, fun j m x y k hx hy h1 h2 hk => ?_⟩
  · rcases hget j x hx with ⟨rfl, rfl⟩ | h
    · exact .inr hD
    · exact .inl h
  · rcases hget j x hx with ⟨rfl, rfl⟩ | h
    · rcases hget m y hy with ⟨rfl, rfl⟩ | h'
      · rfl
      · have := hR m y k h' h2; omega
    · have := hR j x k h h1; omega
/-- another row in new memory, some arrays with new bytes; the heap's own block is turned last -/
theorem At.turned {u arrT ty : TypeId} {w w1 w4 : World} {B p : Nat} {sz : Int} {L' : List Ar} {F : Nat → Prop} {V V' : Value} {R R' : List (Ar × Value)} (hdt : u ≠ ty)
    (h : HpV u arrT ty w1 B p sz V R) (ha : Apart R) (hF : ∀ k, Foot p V R k → F k) (hFb : ∀ k, F k → B ≤ k ∧ k < w.heap.size) (hb : Below w.heap.size w w1) (hb4 : Below w1.heap.size w1 w4)
    (hs : Some' R R' w1.heap.size) (hd : ∀ (i : Nat) x, R'[i]? = some x → R[i]? = some x ∨ Dw u w4 B x.2 x.1.data) (hm : R'.map Prod.fst = L') (hg : Good sz L')
    (hrow : w4.ownsRow B arrT 5 V' R'.length (flat R')) (hV : ∀ k, V'.ownBlock = some k → w1.heap.size ≤ k) :
    At u arrT ty (w4.setCell ⟨p, 1, none⟩ V') B p sz L' (More F w (w4.setCell ⟨p, 1, none⟩ V')) ∧ Only F w (w4.setCell ⟨p, 1, none⟩ V') := by
  have hp := h.blk.lt
  have hk : ∀ (i : Nat) x k, R'[i]? = some x → dB x.2 x.1.data = some k → (F k ∧ k ≠ p) ∨ w1.heap.size ≤ k := by
    intro i x k hx hk
    rcases hs.old i x hx with h1 | h1
    · exact .inl ⟨hF k (.inr (.inr ⟨i, x, h1, hk⟩)), h.dat_ne_p hdt h1 hk⟩
    · exact .inr (h1 k hk)
  have ht := h.turn (w1 := w4) (V' := V') (R' := R') (S := fun _ => False) (Only.of_below hb4) id hrow
    (fun i x hx => by
      rcases hd i x hx with h1 | h1
      · exact (h.dat i x h1).keep (S := fun _ => False) (Only.of_below hb4) (fun _ _ h => h)
      · exact h1)
    (fun e => by have := hV p e; omega)
    (fun i x k hx hk' => by rcases hk i x k hx hk' with h1 | h1; exact h1.2; omega)
  have hO : Only F w (w4.setCell ⟨p, 1, none⟩ V') := by
    refine (((Only.of_below hb : Only F w w1)).trans ((Only.of_below hb4 : Only F w1 w4)) (fun _ _ h => h)).setCell (.inl (hF p (.inl rfl))) _
  have hsz := hO.size
  have hs1 := hb.size
  refine ⟨⟨V', R', ht, ?_, hm, hg, ?_, ?_⟩, hO⟩
  · intro i j x y k hx hy hne h1 h2
    rcases hs.old i x hx with e1 | e1
    · rcases hs.old j y hy with e2 | e2
      · exact ha i j x y k e1 e2 hne h1 h2
      · have := e2 k h2; have := (h.lt (.inr (.inr ⟨i, x, e1, h1⟩))).2; omega
    · exact hne (hs.one i j x y k hx hy h1 h2 (e1 k h1))
  · intro k hf
    have hlt := (ht.lt hf).2
    rcases hf with rfl | hf | ⟨i, x, hx, hf⟩
    · exact .inl (hF _ (.inl rfl))
    · exact .inr ⟨by have := hV k hf; omega, hlt⟩
    · rcases hk i x k hx hf with h1 | h1
      · exact .inl h1.1
      · exact .inr ⟨by omega, hlt⟩
  · intro k hf
    rcases hf with h1 | ⟨h1, h2⟩
    · have := hFb k h1; exact ⟨this.1, by omega⟩
    · have := h.ge; have := hFb p (hF p (.inl rfl)); exact ⟨by omega, h2⟩
theorem Blk.new' (w : World) (t : TypeId) (cs : Array Value) (k : Nat) (hk : k = w.heap.size) : Blk (w.alloc (.cells cs t)) k t cs := by subst hk; exact Blk.new w t cs
theorem own_empty {W : World} {B g : Nat} {e : TypeId} (h : Blk W g e #[]) (hB : B ≤ g) : W.ownsRow B e 5 (.slice (some ⟨g, 0, none⟩) 0 0) 0 [] :=
  ⟨by simp, .inr ⟨g, 0, #[], rfl, hB, h, Nat.le_refl _, by unfold maxLen; omega, by simp, by simp⟩⟩
theorem own_empty1 {W : World} {B g : Nat} {e : TypeId} (h : Blk W g e #[]) (hB : B ≤ g) : W.ownsRow B e 1 (.slice (some ⟨g, 0, none⟩) 0 0) 0 [] :=
  ⟨by simp, .inr ⟨g, 0, #[], rfl, hB, h, Nat.le_refl _, by unfold maxLen; omega, by simp, by simp⟩⟩
theorem blk_grown {W w3 : World} {row : Option Nat} {g : Nat} {t : TypeId} {cs : Array Value} (hg : W.grownBy w3 row) (h : Blk W g t cs) (hn : row ≠ some g) : Blk w3 g t cs := (hg.block g h.lt (fun e => hn e.symm)).trans h
theorem Src.of_blk {W : World} {g : Nat} {t : TypeId} {cs : Array Value} {k : Nat} (h : Blk W g t cs) (hk : cs.size = k) (h1 : ∀ u ∈ cs.toList, u.oneCell' = true) : Src W (some ⟨g, 0, none⟩) 1 k cs.toList :=
  ⟨by simp [hk], nofun, fun ad had j u hu => by
    injection had with had; subst had
    have e1 : (⟨g, 0, none⟩ : Addr).add j = ⟨g, j, none⟩ := by unfold Addr.add; split <;> simp_all
    rw [e1, h.cell]; simpa using hu, h1⟩
theorem Src.below {w w' : World} {A : Option Addr} {m size : Nat} {news : List Value} (h : Src w A m size news) (hb : Below w.heap.size w w') : Src w' A m size news :=
  ⟨h.len, h.none_, fun ad had j u hu => by
    have := h.cell ad had j u hu
    rw [hb.cell (World.block_lt_of_cell? w _ this)]; exact this, h.one⟩
/-- a row that is owned, as append reads it -/
theorem Src.own {w : World} {base n q c : Nat} {e : TypeId} {R : List (Ar × Value)} (h : w.ownsRow base e 5 (.slice (some ⟨q, 0, none⟩) n c) n (flat R)) (h1 : ∀ u ∈ flat R, u.oneCell' = true) : Src w (some ⟨q, 0, none⟩) n 5 (flat R) :=
  ⟨h.1, nofun, fun ad had j u hu => by injection had with had; subst had; exact h.cells rfl j u hu, h1⟩
theorem flat_one {u : TypeId} {w : World} {B : Nat} {R : List (Ar × Value)} (h : ∀ (i : Nat) x, R[i]? = some x → Dw u w B x.2 x.1.data) : ∀ v ∈ flat R, v.oneCell' = true := by
  induction R with
  | nil => intro v hv; simp [flat] at hv
  | cons x R ih =>
    intro v hv
    rw [flat, List.mem_append] at hv
    rcases hv with hv | hv
    · obtain ⟨A, c, hD, _⟩ := (h 0 x rfl).slice
      simp [cells5, hD] at hv
      rcases hv with rfl | rfl | rfl | rfl | rfl <;> rfl
    · exact ih (fun i y hy => h (i + 1) y (by simpa using hy)) v hv
end Go.Proofs.Hv
