/- hand.Plain: the plain nodes of a program. -/
import Derived.Test.YtilifniflpbbkaaDoorRc
import Derived.Test.YtilifniflpbbkaaDoorPn2
import Derived.Deep.RegionLaw
import Derived.BigRegion
namespace Go.Proofs.YtilifniflpbbkaaDoor
open Go.RowKit On
theorem info_pn : (Tryd.prog.info? 30).map (fun i => (i.zero, i.size, i.bytes)) = some (some (.agg #[.int .i64 0, .int .i64 0, .int .i64 0, .int .i64 0, .int .i64 0, .int .i64 0, .int .i64 0, .slice none 0 0]), 8, 80) := by kernel_rfl
/-- a plain node and where its registers lie -/
def cells8 (x : Nd × Option Addr × Nat) : List Value := [.int .i64 x.1.pn.kind, .int .i64 x.1.pn.dst, .int .i64 x.1.pn.op, .int .i64 x.1.pn.n, .int .i64 x.1.pn.a, .int .i64 x.1.pn.b, .int .i64 x.1.pn.tgt, .slice x.2.1 x.1.uses.length x.2.2]
def flat8 (R : List (Nd × Option Addr × Nat)) : List Value := R.flatMap cells8
theorem flat8_at (R : List (Nd × Option Addr × Nat)) : ∀ (k : Nat) (hk : k < R.length) (j : Nat), j < 8 → (flat8 R)[k * 8 + j]? = (cells8 (R[k]'hk))[j]? := by
  induction R with
  | nil => intro k hk; simp at hk
  | cons a l ih =>
    intro k hk j hj
    unfold flat8
    rw [List.flatMap_cons]
    cases k with
    | zero => rw [List.getElem?_append_left (by simp [cells8]; omega)]; simp
    | succ k =>
      rw [List.getElem?_append_right (by simp [cells8]; omega)]
      have : (k + 1) * 8 + j - (cells8 a).length = k * 8 + j := by simp [cells8]; omega
      rw [this]
      have := ih k (by simpa using hk) j hj
      unfold flat8 at this
      simpa using this
theorem flat8_snoc (R : List (Nd × Option Addr × Nat)) (x : Nd × Option Addr × Nat) : flat8 (R ++ [x]) = flat8 R ++ cells8 x := by
  unfold flat8; rw [List.flatMap_append]; simp
/-- a slice of registers lies apart -/
def Sep (N : Nat) (v : Value) (x : Nd × Option Addr × Nat) : Prop := x.1.uses ≠ [] → ∀ g o s, x.2.1 = some ⟨g, o, s⟩ → v.ownBlock ≠ some g ∧ (g < N ∨ N + 3 ≤ g)
/-- the rows that are filled -/
structure Pl (N : Nat) (w : World) (v : Value) (R : List (Nd × Option Addr × Nat)) : Prop where
  own : w.ownsRow (N + 3) 30 8 v R.length (flat8 R)
  ok : ∀ x ∈ R, Ints .i64 w (.slice x.2.1 x.1.uses.length x.2.2) x.1.uses ∧ x.1.uses.length ≤ 8
  sep : ∀ x ∈ R, Sep N v x
theorem Ints.move {q : IntKind} {w w' : World} {A : Option Addr} {c : Nat} {xs : List Int} (h : Ints q w (.slice A xs.length c) xs) (hm : xs ≠ [] → ∀ g o s, A = some ⟨g, o, s⟩ → g < w.heap.size → w'.heap[g]? = w.heap[g]?) : Ints q w' (.slice A xs.length c) xs := by
  obtain ⟨A', c', e, h0, h2⟩ := h
  injection e with e1 e2 e3
  clear e2
  subst e1; subst e3
  refine ⟨_, _, rfl, h0, fun k x hx => ?_⟩
  obtain ⟨g, o, rfl, hc⟩ := h2 k x hx
  have hne : xs ≠ [] := by rintro rfl; simp at hx
  exact ⟨g, o, rfl, by rw [World.cell?_of_block (a := ⟨g, o + k, none⟩) (hm hne g o none rfl (World.block_lt_of_cell? w _ hc))]; exact hc⟩
theorem Pl.nodes {N : Nat} {w : World} {A : Option Addr} {c : Nat} {R : List (Nd × Option Addr × Nat)} (h : Pl N w (.slice A R.length c) R) : PNodes w A (R.map Prod.fst) := by
  intro k n hk
  rw [List.getElem?_map, Option.map_eq_some_iff] at hk
  obtain ⟨x, hx, rfl⟩ := hk
  obtain ⟨hkl, hxe⟩ := List.getElem?_eq_some_iff.mp hx
  obtain ⟨A', c', e, ⟨_, h0, _⟩ | ⟨g, cur, hA, _⟩⟩ := own_slice h.own
  · omega
  · injection e with e1 _ e3
    subst e1
    subst hA
    have cell : ∀ j, j < 8 → ∀ u, (cells8 x)[j]? = some u → w.cell? ⟨g, 0 + k * 8 + j, none⟩ = some u := by
      intro j hj u hu
      have hf := flat8_at R k hkl j hj
      rw [hxe] at hf
      have := h.own.cells (g := g) rfl (k * 8 + j) u (hf.trans hu)
      have e1 : (⟨g, 0, none⟩ : Addr).add (k * 8 + j) = ⟨g, 0 + k * 8 + j, none⟩ := by unfold Addr.add; split <;> simp_all
      rwa [e1] at this
    exact ⟨g, 0, x.2.1, x.2.2, rfl, h.ok x (List.mem_of_getElem? hx), cell 0 (by omega) _ rfl, cell 1 (by omega) _ rfl, cell 2 (by omega) _ rfl, cell 3 (by omega) _ rfl, cell 4 (by omega) _ rfl, cell 5 (by omega) _ rfl, cell 6 (by omega) _ rfl, cell 7 (by omega) _ rfl⟩
theorem Pl.keep {N : Nat} {w w' : World} {v : Value} {R : List (Nd × Option Addr × Nat)} (h : Pl N w v R) (hb : Below w.heap.size w w') : Pl N w' v R :=
  ⟨own_only h.own (Only.of_below (S := fun _ => False) hb) (fun _ _ => id), fun x hx => ⟨(h.ok x hx).1.keep hb, (h.ok x hx).2⟩, h.sep⟩
theorem Pl.push {N k : Nat} {w3 w5 : World} {RA A5 : Option Addr} {rc c5 : Nat} {R : List (Nd × Option Addr × Nat)} {o : Obj} (h : Pl N w3 (.slice RA k rc) R) (hk : R.length = k) (x : Nd × Option Addr × Nat)
    (hi : Ints .i64 w3 (.slice x.2.1 x.1.uses.length x.2.2) x.1.uses) (h8 : x.1.uses.length ≤ 8) (hs : Sep N (.slice RA k rc) x)
    (hown : w5.ownsRow (N + 3) 30 8 (.slice A5 (k + 1) c5) (k + 1) (flat8 R ++ cells8 x)) (hg : (w3.alloc o).grownBy w5 (Value.slice RA k rc).ownBlock)
    (hat : (Value.slice A5 (k + 1) c5).ownBlock = (Value.slice RA k rc).ownBlock ∨ (Value.slice A5 (k + 1) c5).ownBlock = some (w3.alloc o).heap.size) (_hN : N + 3 ≤ w3.heap.size) (u : Value) :
    Pl N (w5.setCell ⟨N + 1 + 1, 2, none⟩ u) (.slice A5 (k + 1) c5) (R ++ [x]) := by
  have all : ∀ y ∈ R ++ [x], (Ints .i64 w3 (.slice y.2.1 y.1.uses.length y.2.2) y.1.uses ∧ y.1.uses.length ≤ 8) ∧ Sep N (.slice RA k rc) y := by
    intro y hy
    rcases List.mem_append.mp hy with hy | hy
    · exact ⟨h.ok y hy, h.sep y hy⟩
    · simp at hy; subst hy; exact ⟨⟨hi, h8⟩, hs⟩
  refine ⟨?_, fun y hy => ⟨?_, (all y hy).1.2⟩, fun y hy hne g o' s he => ?_⟩
  · have hl : (R ++ [x]).length = k + 1 := by simp [hk]
    rw [hl, flat8_snoc]
    refine own_only hown (Only.setCell (S := fun j => j = N + 1 + 1) (Only.refl _ w5) (p := ⟨N + 1 + 1, 2, none⟩) (.inl rfl) _) (fun j hj e => ?_)
    have := (hown.lt j hj).1
    omega
  · refine (all y hy).1.1.move fun hne g o' s he hlt => ?_
    obtain ⟨h1, h2⟩ := (all y hy).2 hne g o' s he
    have e1 : w5.heap[g]? = (w3.alloc o).heap[g]? := hg.block g (by simp; omega) (fun e => h1 e.symm)
    have e2 : (w3.alloc o).heap[g]? = w3.heap[g]? := Below.heap_alloc w3 o g hlt
    have e3 : (w5.setCell ⟨N + 1 + 1, 2, none⟩ u).heap[g]? = w5.heap[g]? := Below.heap_setCell w5 ⟨N + 1 + 1, 2, none⟩ u g (by show g ≠ N + 1 + 1; omega)
    rw [e3, e1, e2]
  · obtain ⟨h1, h2⟩ := (all y hy).2 hne g o' s he
    refine ⟨fun e => ?_, h2⟩
    rcases hat with hat | hat
    · rw [hat] at e; exact h1 e
    · rw [hat] at e
      injection e with e
      obtain ⟨A', c', ee, _, hc⟩ := (all y hy).1.1
      injection ee with e1 _ _
      cases hu : y.1.uses with
      | nil => exact hne hu
      | cons a t =>
        obtain ⟨g', o'', e', hcell⟩ := hc 0 a (by rw [hu]; rfl)
        rw [← e1, he] at e'
        injection e' with e'
        injection e' with e' _ _
        have := World.block_lt_of_cell? w3 _ hcell
        simp at this e
        omega
theorem Pl.set {N : Nat} {w : World} {v : Value} {R : List (Nd × Option Addr × Nat)} (h : Pl N w v R) {p : Addr} (hp : N ≤ p.block) (hp2 : p.block < N + 3) (u : Value) : Pl N (w.setCell p u) v R :=
  ⟨own_only h.own (Only.setCell (S := fun j => j = p.block) (Only.refl _ w) (.inl rfl) u) (fun j hj e => by have := (h.own.lt j hj).1; omega),
    fun x hx => ⟨(h.ok x hx).1.move fun hne g o s he _ => Below.heap_setCell w p u g (by have := (h.sep x hx hne g o s he).2; omega), (h.ok x hx).2⟩, h.sep⟩
theorem Nd.sl_old {w : World} {n : Nd} (h : n.ok w) (hne : n.uses ≠ []) {a : Addr} (hs : n.sl = some a) : a.block < w.heap.size := by
  have key : ∀ {A : Option Addr} {c : Nat} {xs : List Int}, Ints .i64 w (.slice A xs.length c) xs → xs ≠ [] → A = some a → a.block < w.heap.size := by
    intro A c xs hi hx hA
    obtain ⟨A', c', e, _, hc⟩ := hi
    injection e with e1 _ _
    cases xs with
    | nil => exact absurd rfl hx
    | cons x t =>
      obtain ⟨g, o, e', hcell⟩ := hc 0 x rfl
      rw [← e1, hA] at e'
      injection e' with e'
      subst e'
      exact World.block_lt_of_cell? w _ hcell
  cases n <;> simp only [Nd.sl] at hs <;> first | exact key h.1 hne hs | cases hs
set_option maxHeartbeats 16000000 in
set_option maxRecDepth 100000 in
theorem plainProg_c (params regs : Int) (A : Option Addr) (c : Nat) (l : List Nd) (hlen : l.length ≤ 300) (w : World) (hl : Nodes w A l) :
    Calls Tryd.prog 24 #[.agg #[.int .i64 params, .int .i64 regs, .slice A l.length c]] w fun e w' => ∃ RA rc, e = .returned (.agg #[.int .i64 params, .int .i64 regs, .slice RA l.length rc]) ∧ PNodes w' RA l ∧ Below w.heap.size w w' := by
  obtain ⟨i0, hi0, hz0, hz1, hz2⟩ := info_parts1 info_pn
  have HL := Lib.hid hl
  clear hl
  obtain ⟨w0, hw0⟩ : ∃ w0, w0 = (((w.alloc (.cells #[.int .i64 params, .int .i64 regs, .slice A l.length c] 46)).alloc (.cells #[.int .i64 0, .int .i64 0, .slice none 0 0] 56)).alloc (.cells #[.int .i64 params, .int .i64 regs, .slice none 0 0] 56)) := ⟨_, rfl⟩
  have kp : Blk w0 w.heap.size 46 #[.int .i64 params, .int .i64 regs, .slice A l.length c] := by rw [hw0]; exact ((Blk.new w _ _).alloc _).alloc _
  have kr : Blk w0 (w.heap.size + 1) 56 #[.int .i64 0, .int .i64 0, .slice none 0 0] := by
    have := (Blk.new (w.alloc (.cells #[.int .i64 params, .int .i64 regs, .slice A l.length c] 46)) 56 #[.int .i64 0, .int .i64 0, .slice none 0 0]).alloc (.cells #[.int .i64 params, .int .i64 regs, .slice none 0 0] 56)
    rw [hw0]; simpa using this
  have ko : Blk w0 (w.heap.size + 1 + 1) 56 #[.int .i64 params, .int .i64 regs, .slice none 0 0] := by
    have := Blk.new ((w.alloc (.cells #[.int .i64 params, .int .i64 regs, .slice A l.length c] 46)).alloc (.cells #[.int .i64 0, .int .i64 0, .slice none 0 0] 56)) 56 #[.int .i64 params, .int .i64 regs, .slice none 0 0]
    rw [hw0]; simpa using this
  have hb0 : Below w.heap.size w w0 := by rw [hw0]; exact (((Below.refl _ _).alloc (Nat.le_refl _) _).alloc (by simp) _).alloc (by simp; omega) _
  have HP := Lib.hid kp; have HRB := Lib.hid kr; have HO := Lib.hid ko; have HB := Lib.hid hb0
  clear kp kr ko hb0
  go_enter Tryd.func24, Tryd.ntmps24
  go_wp2_with fail
  rw [← hw0]
  clear hw0
  go_loopw [4] (fun i wx => ∃ (k : Nat) (R : List (Nd × Option Addr × Nat)) (RA : Option Addr) (rc : Nat), k ≤ l.length ∧ i = .int .i64 k ∧ R.map Prod.fst = l.take k ∧ R.length = k ∧ Pl w.heap.size wx (.slice RA k rc) R ∧
    Blk wx w.heap.size 46 #[.int .i64 params, .int .i64 regs, .slice A l.length c] ∧ Blk wx (w.heap.size + 1) 56 #[.int .i64 0, .int .i64 0, .slice none 0 0] ∧ Blk wx (w.heap.size + 1 + 1) 56 #[.int .i64 params, .int .i64 regs, .slice RA k rc] ∧ Below w.heap.size w wx) (fun i _ => l.length - (intOf i).toNat)
  case atStart => exact ⟨0, [], none, 0, Nat.zero_le _, rfl, rfl, rfl, ⟨World.ownsRow_nil _ _ _ _, by simp, by simp⟩, HP.out, HRB.out, HO.out, HB.out⟩
  case round =>
    obtain ⟨k, R, RA, rc, hk, rfl, hR, hRl, hpl, hp, hr, ho, hb⟩ := hrel
    have HRM := Lib.hid hR; have HRL := Lib.hid hRl; have HPL := Lib.hid hpl; have HPX := Lib.hid hp; have HRX := Lib.hid hr; have HOX := Lib.hid ho; have HBX := Lib.hid hb
    have p2 := hp.cell 2
    have o2 := ho.cell 2
    simp at p2 o2
    clear hR hRl hpl hp hr ho HP HRB HO HB
    by_cases hlt : k < l.length
    · obtain ⟨hok, g, o, rfl, hck⟩ := (HL.out.keep HBX.out) k _ (List.getElem?_eq_getElem hlt)
      have HOKW : Hid ((l[k]'hlt).ok w) := (HL.out k _ (List.getElem?_eq_getElem hlt)).1
      have HTK : Hid (l.take (k + 1) = l.take k ++ [l[k]'hlt]) := List.take_succ_eq_append_getElem hlt
      generalize l[k]'hlt = n at *
      have HUL := Lib.hid (Nd.uses_len hok)
      have HOKD : Hid (n.ok wr.drew) := hok.keep ⟨rfl, rfl, rfl, Nat.le_refl _, fun _ _ => rfl⟩
      have hplain : Hid (∀ wq, n.ok wq → Calls Tryd.prog 9 #[n.val] wq fun e w' => ∃ PA pc, e = .returned (.agg #[.int .i64 n.pn.kind, .int .i64 n.pn.dst, .int .i64 n.pn.op, .int .i64 n.pn.n, .int .i64 n.pn.a, .int .i64 n.pn.b, .int .i64 n.pn.tgt, .slice PA n.uses.length pc]) ∧ Ints .i64 w' (.slice PA n.uses.length pc) n.uses ∧ Below wq.heap.size wq w' ∧ (PA = n.sl ∨ ∀ g o s, PA = some ⟨g, o, s⟩ → wq.heap.size ≤ g)) := fun wq h => (plain2_c n wq h).mono fun e w' g => by
        obtain ⟨PA, pc, h1, h2, h3, h4⟩ := g
        rw [n.pn_args] at h2
        exact ⟨PA, pc, by rw [h1, Pn.val, n.pn_args], h2, h3, h4⟩
      generalize n.val = nv at *
      have hk300 : k < 300 := by omega
      have hsz : w.heap.size + 3 ≤ wr.heap.size := by have := HOX.out.lt; omega
      clear hok
      go_wp2_with fail
      go_region_law (first
        | (refine step_append_at _ (by rfl) (.tmp 18) (.tmp 25) _ (by rfl) (w.heap.size + 3) 30 i0 _ 8 80 Tryd.underlying54 hi0 hz0 hz1 hz2 rfl (by omega) _ k (flat8 R) (by rfl) hown3 (some ⟨w3.heap.size, 0, none⟩) 1 1 _ (by rfl) hsrc3 nofun (by unfold maxLen; omega) (by omega) hsz3 ?_
           intro A5 c5 w5 hown5 hg5 hat5
           have hO5 := ((Only.refl (fun j => w.heap.size + 3 ≤ j) w3).alloc (.cells #[.int .i64 n.pn.kind, .int .i64 n.pn.dst, .int .i64 n.pn.op, .int .i64 n.pn.n, .int .i64 n.pn.a, .int .i64 n.pn.b, .int .i64 n.pn.tgt, .slice PA n.uses.length pc] 30)).grown hg5 (fun j hj => .inl (hbase3 j hj))
           have ko5 := ko3.only hO5 (by omega)
           have o5 := ko5.cell 2
           have f5 := ko5.frozen 2
           simp at o5)
        | (go_simp; go_at_call 9; refine (hplain.out _ HOKD.out).mono ?_; rintro e w3 ⟨PA, pc, rfl, hi3, hb3, hsl3⟩
           have hbr3 : Below wr.heap.size wr w3 := ⟨hb3.os, hb3.tape, hb3.output, hb3.size, hb3.block⟩
           have ko3 := HOX.out.only (S := fun _ => False) (Only.of_below hbr3) id
           have o2 := ko3.cell 2
           simp at o2
           have hz3 : w.heap.size + 3 ≤ w3.heap.size := by have := hbr3.size; omega
           have hlt3 : w.heap.size + 1 + 1 < w3.heap.size := by omega
           have hsz3 : w.heap.size + 3 ≤ (w3.alloc (.cells #[.int .i64 n.pn.kind, .int .i64 n.pn.dst, .int .i64 n.pn.op, .int .i64 n.pn.n, .int .i64 n.pn.a, .int .i64 n.pn.b, .int .i64 n.pn.tgt, .slice PA n.uses.length pc] 30)).heap.size := by simp; omega
           have hpl3 := HPL.out.keep hbr3
           have hown3 := own_only (by have := hpl3.own; rw [HRL.out] at this; exact this) ((Only.refl (fun _ => False) w3).alloc (.cells #[.int .i64 n.pn.kind, .int .i64 n.pn.dst, .int .i64 n.pn.op, .int .i64 n.pn.n, .int .i64 n.pn.a, .int .i64 n.pn.b, .int .i64 n.pn.tgt, .slice PA n.uses.length pc] 30)) (fun _ _ => id)
           have hbase3 : ∀ j, (Value.slice RA k rc).ownBlock = some j → w.heap.size + 3 ≤ j := fun j hj => by have := (hown3.lt j hj).1; exact this
           have hsrc3 := Src.block w3 30 8 [.int .i64 n.pn.kind, .int .i64 n.pn.dst, .int .i64 n.pn.op, .int .i64 n.pn.n, .int .i64 n.pn.a, .int .i64 n.pn.b, .int .i64 n.pn.tgt, .slice PA n.uses.length pc] rfl (by intro u hu; simp at hu; rcases hu with rfl | rfl | rfl | rfl | rfl | rfl | rfl | rfl <;> rfl) (0, 0)))
      all_goals
        have hsx : Sep w.heap.size (.slice RA k rc) (n, PA, pc) := by
          intro hne g1 o1 s1 he
          have hlt1 : ∀ j, (Value.slice RA k rc).ownBlock = some j → j < wr.heap.size := fun j hj => by
            have := HPL.out.own; rw [HRL.out] at this; exact (this.lt j hj).2
          rcases hsl3 with h | h
          · have : g1 < w.heap.size := Nd.sl_old HOKW.out hne (a := ⟨g1, o1, s1⟩) (by rw [← h]; exact he)
            exact ⟨fun e => by have := hbase3 _ e; omega, .inl this⟩
          · have := h g1 o1 s1 he
            have h' : wr.heap.size ≤ g1 := this
            exact ⟨fun e => by have := hlt1 _ e; omega, .inr (by omega)⟩
        have hpush := Pl.push hpl3 HRL.out (n, PA, pc) hi3 HUL.out hsx hown5 hg5 hat5 hz3 (.slice A5 (k + 1) c5)
        have kp5 := (HPX.out.only (S := fun _ => False) (Only.of_below hbr3) id).only hO5 (by omega)
        have kr5 := (HRX.out.only (S := fun _ => False) (Only.of_below hbr3) id).only hO5 (by omega)
        have hb5 : Below w.heap.size w w5 := (HBX.out.trans (hbr3.mono HBX.out.size)).trans (hO5.below (by have := HBX.out.size; have := hbr3.size; omega) (fun j hj => by omega))
        have HPU := Lib.hid hpush; have HKP := Lib.hid kp5; have HKR := Lib.hid kr5; have HKO := Lib.hid ko5; have HB5 := Lib.hid hb5
        clear hpush kp5 kr5 hb5 hsx hpl3 hown3 hown5 hg5 hat5 hO5 ko5 ko3 hi3 hsl3 hb3 hbase3 hsrc3 hck
        go_wp2_with fail
        go_roundw
        case rel =>
          refine ⟨k + 1, R ++ [(n, PA, pc)], A5, c5, by omega, by go_num, ?_, by simp [HRL.out], HPU.out, ?_, ?_, HKO.out.set 2 _, HB5.out.setCell (p := ⟨w.heap.size + 1 + 1, 2, none⟩) (by show w.heap.size ≤ w.heap.size + 1 + 1; omega) _⟩
          · rw [List.map_append, HRM.out, HTK.out]; rfl
          · exact HKP.out.far (p := ⟨w.heap.size + 1 + 1, 2, none⟩) (by show w.heap.size ≠ w.heap.size + 1 + 1; omega) _
          · exact HKR.out.far (p := ⟨w.heap.size + 1 + 1, 2, none⟩) (by show w.heap.size + 1 ≠ w.heap.size + 1 + 1; omega) _
        case measure => simp [intOf]; omega
    · have hkl : k = l.length := by omega
      subst hkl
      have o0 := HOX.out.cell 0
      have o1 := HOX.out.cell 1
      have r0 := HRX.out.cell 0
      have r1 := HRX.out.cell 1
      have r2 := HRX.out.cell 2
      have f0 := HRX.out.frozen 0
      have f1 := HRX.out.frozen 1
      have f2 := HRX.out.frozen 2
      simp at o0 o1 r0 r1 r2
      have hnod := ((HPL.out.set (p := ⟨w.heap.size + 1, 0, none⟩) (Nat.le_succ _) (by show w.heap.size + 1 < _; omega) (.int .i64 params)).set (p := ⟨w.heap.size + 1, 1, none⟩) (Nat.le_succ _) (by show w.heap.size + 1 < _; omega) (.int .i64 regs)).set (p := ⟨w.heap.size + 1, 2, none⟩) (Nat.le_succ _) (by show w.heap.size + 1 < _; omega) (.slice RA l.length rc)
      rw [← HRL.out] at hnod
      have hpn := hnod.nodes
      rw [HRM.out, List.take_length, HRL.out] at hpn
      have HPN := Lib.hid hpn
      clear hnod hpn
      go_wp2_with fail
      refine bodyPost_ret (results_cell_row rfl _ _ (w.heap.size + 1) 56 _ (0, 0) _ (by rfl) (((HRX.out.set 0 _).set 1 _).set 2 _) Tryd.underlying56 rfl (by rfl)) rfl ?_
      exact ⟨RA, rc, rfl, HPN.out, ((HBX.out.setCell (p := ⟨w.heap.size + 1, 0, none⟩) (Nat.le_succ _) _).setCell (p := ⟨w.heap.size + 1, 1, none⟩) (Nat.le_succ _) _).setCell (p := ⟨w.heap.size + 1, 2, none⟩) (Nat.le_succ _) _⟩
end Go.Proofs.YtilifniflpbbkaaDoor
