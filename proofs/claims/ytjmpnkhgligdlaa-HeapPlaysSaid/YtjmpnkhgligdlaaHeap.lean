/- Package heap: at, Clone, Array, Get, Put, SetBuffer, Used, Count. -/
import Derived.Test.YtjmpnkhgligdlaaPick
import Derived.Test.YtjmpnkhgligdlaaHv
import Derived.OwnWalk
import Derived.Laws.AppendOwnNone
import Derived.WalkSmall
import Derived.WalkSpells
namespace Go.Proofs.Ytjmpnkhgligdlaa
open Go.RowKit On Hv
theorem info_u8 : (Try.prog.info? 5).map (fun i => (i.zero, i.size, i.bytes)) = some (some (.int .u8 0), 1, 1) := by kernel_rfl
/-- the heap of package heap -/
def HpI (w : World) (B p : Nat) (sz : Int) (V : Value) (R : List (Ar × Value)) : Prop := HpV 5 37 68 w B p sz V R
theorem at_yes (w : World) (B p : Nat) (sz : Int) (q n c i : Nat) (R : List (Ar × Value)) (ref : Int) (h : HpI w B p sz (.slice (some ⟨q, 0, none⟩) n c) R) (h1 : 1 ≤ ref) (h2 : ref ≤ n) (hn : (n : Int) ≤ 1000000) (hi : ref.toNat - 1 = i) :
    Calls Try.prog 39 #[.pointer (some ⟨p, 0, none⟩), .int .i64 ref] w fun e w' => e = .returned (.pointer (some ⟨q, i * 5, none⟩)) ∧ w = w' := by
  have hc := h.blk.cell 1
  simp at hc
  have HI := Lib.hid hi
  clear h hi
  go_enter Try.func39, Try.ntmps39
  go_wp2
  go_ret
  exact ⟨by rw [← HI.out]; rfl, rfl⟩
theorem at_no (w : World) (B p : Nat) (sz : Int) (q n c : Nat) (R : List (Ar × Value)) (ref : Int) (h : HpI w B p sz (.slice (some ⟨q, 0, none⟩) n c) R) (h1 : ref < 1 ∨ n < ref) :
    Calls Try.prog 39 #[.pointer (some ⟨p, 0, none⟩), .int .i64 ref] w fun e w' => e = .returned (.pointer none) ∧ w = w' := by
  have hc := h.blk.cell 1
  simp at hc
  clear h
  by_cases h0 : ref < 1
  · clear h1
    go_enter Try.func39, Try.ntmps39
    go_wp2
    go_ret
    exact ⟨rfl, rfl⟩
  · have h2 : (n : Int) < ref := by omega
    clear h1
    go_enter Try.func39, Try.ntmps39
    go_wp2
    go_ret
    exact ⟨rfl, rfl⟩
theorem bcell {W w1 : World} (hb : Below W.heap.size W w1) : (∀ b o, b < W.heap.size → w1.cell? ⟨b, o, none⟩ = W.cell? ⟨b, o, none⟩) ∧ (∀ b o, b < W.heap.size → w1.frozen? ⟨b, o, none⟩ = W.frozen? ⟨b, o, none⟩) :=
  ⟨fun b o h => hb.cell (p := ⟨b, o, none⟩) h, fun b o h => hb.frozen (p := ⟨b, o, none⟩) h⟩
/-- new bytes -/
def NewBytes (w : World) (xs : List Int) (e : Ending) (w' : World) : Prop :=
  ∃ D, e = .returned D ∧ (∃ A c, D = .slice A xs.length c) ∧ Dw 5 w' w.heap.size D xs ∧ Below w.heap.size w w'
theorem clone_c (w : World) (B : Nat) (D : Value) (xs : List Int) (h : Dw 5 w B D xs) (hn : xs.length ≤ 1000000) :
    Calls Try.prog 40 #[D] w (NewBytes w xs) := by
  obtain ⟨i0, hi0, hz0, hz1, hz2⟩ := info_parts info_u8
  have hby := Lib.hid h.byte
  obtain ⟨A, c, rfl, hc0, hs⟩ := h.src
  have HC0 := Lib.hid hc0
  have q29 : ∀ (w : World) (a : Option Addr) (n c n' c' : Nat), (binOp .eql 29 (.slice a n c) (.slice none n' c')).run Try.prog w = .ok (.bool a.isNone) w := fun w a n c n' c' => Lib.run_eql_slice_nil w _ _ a n c n' c' Try.underlying29
  have HL : Hid (xs.length = (xs.map (Value.int .u8)).length) := by unfold Hid; simp
  clear hc0 h
  cases A with
  | none =>
    have h0 := hs.none_ rfl
    have : xs = [] := List.eq_nil_of_length_eq_zero h0
    subst this
    have h0 := HC0.out rfl
    subst h0
    go_enter Try.func40, Try.ntmps40
    go_wp2
    go_ret
    exact ⟨_, rfl, ⟨_, _, rfl⟩, Dw.nil, Below.refl _ _⟩
  | some ad =>
    have hs2 : Src (w.alloc (.cells #[] 5)) (some ad) xs.length 1 (xs.map (Value.int .u8)) :=
      ⟨hs.len, hs.none_, fun a ha j u hu => by
        have := hs.cell a ha j u hu
        rw [World.cell?_alloc_lt w _ _ (World.block_lt_of_cell? w _ this)]; exact this, hs.one⟩
    have HS := Lib.hid hs2
    clear hs hs2
    have hown := World.ownsRow_made (size := 1) (e := 5) (base := w.heap.size) w #[] 0 (Nat.le_refl _) (by unfold maxLen; omega) (by simp)
    have HB : Hid (Below w.heap.size w (w.alloc (.cells #[] 5))) := (Below.refl _ _).alloc (Nat.le_refl _) _
    have HN := Lib.hid hn
    clear hn
    go_enter Try.func40, Try.ntmps40
    go_wp2_with (at_builtin; refine wpList_append_at _ rfl (.tmp 5) (.tmp 6) _ rfl w.heap.size 5 i0 _ 1 1 Try.underlying29 hi0 hz0 hz1 hz2 rfl (by omega) _ 0 [] rfl hown (some ad) _ c _ rfl HS.out nofun (by have := HN.out; unfold maxLen; omega) (by have := HN.out; omega) (by simp) ?_)
    intro A' c' w1 hown1 hg _
    try simp only [Nat.zero_add, List.nil_append] at hown1
    have HW := Lib.hid (Dw.own hown1 hby.out)
    have HB1 := Lib.hid (HB.out.grown hg (by simp) (by simp [Value.ownBlock]))
    clear hown1 hg hown
    go_wp2
    go_ret
    exact ⟨_, rfl, ⟨_, _, rfl⟩, HW.out, HB1.out⟩
/-- an array handed out: its bytes lie in new memory -/
def ArrPost (w : World) (x : Ar) (e : Ending) (w' : World) : Prop :=
  ∃ D, e = .returned (.tuple #[.agg #[.int .i64 x.owner, .int .i64 x.label, .int .i64 x.life, .bool x.share, D], .bool true]) ∧ Dw 5 w' w.heap.size D x.data ∧ Below w.heap.size w w'
theorem array_yes (w : World) (B p : Nat) (sz : Int) (q n c i : Nat) (R : List (Ar × Value)) (x : Ar × Value) (ref : Int) (h : HpI w B p sz (.slice (some ⟨q, 0, none⟩) n c) R) (hn : (n : Int) ≤ 1000000) (h1 : 1 ≤ ref) (h2 : ref ≤ n)
    (hx : R[i]? = some x) (hi : ref.toNat - 1 = i) (hd : x.1.data.length ≤ 1000000) :
    Calls Try.prog 16 #[.pointer (some ⟨p, 0, none⟩), .int .i64 ref] w (ArrPost w x.1) := by
  have c0 := h.cell rfl hx (show 0 < 5 by omega)
  have c1 := h.cell rfl hx (show 1 < 5 by omega)
  have c2 := h.cell rfl hx (show 2 < 5 by omega)
  have c3 := h.cell rfl hx (show 3 < 5 by omega)
  have c4 := h.cell rfl hx (show 4 < 5 by omega)
  simp [cells5] at c0 c1 c2 c3 c4
  have HD := Lib.hid (h.dat i x hx)
  have hq := (h.lt (k := q) (.inr (.inl rfl))).2
  have H := Lib.hid h
  have HI := Lib.hid hi
  have HN := Lib.hid hd
  clear h hx hi hd
  obtain ⟨a, D⟩ := x
  simp only at c0 c1 c2 c3 c4 HD HN
  obtain ⟨a1, a2, a3, a4, a5⟩ := a
  simp only at c0 c1 c2 c3 c4 HD HN
  obtain ⟨A, cD, rfl, _⟩ := HD.out.slice
  go_enter Try.func16, Try.ntmps16
  go_wp2_with fail
  refine (at_yes _ B p sz q n c i R ref (H.out.below ((Below.refl _ _).alloc (Nat.le_refl _) _)) h1 h2 hn HI.out).mono ?_
  rintro e w' ⟨rfl, rfl⟩
  go_wp2_with fail
  refine (clone_c _ B _ a5 (HD.out.keep (S := fun _ => False) (((Only.refl _ w).alloc _).alloc _) (fun _ _ h => h)) HN.out).mono ?_
  rintro e w1 ⟨D1, rfl, ⟨A1, k1, rfl⟩, hd1, hb1⟩
  have HB1 : Hid (Below w.heap.size w w1) := (((Below.refl _ _).alloc (Nat.le_refl _) _).alloc (by simp) _).trans (hb1.mono (by simp; omega))
  have HD1 := Lib.hid hd1
  have hz : w.heap.size + 1 < w1.heap.size := by have := hb1.size; simp at this; omega
  obtain ⟨hc, hf⟩ := bcell hb1
  have K0 : Blk w1 w.heap.size 37 #[.int .i64 0, .int .i64 0, .int .i64 0, .bool false, .slice none 0 0] := ((Blk.new w _ _).alloc _).only (S := fun _ => False) (Only.of_below hb1) id
  have z0 := K0.cell 0
  have z1 := K0.cell 1
  have z2 := K0.cell 2
  have z3 := K0.cell 3
  have z4 := K0.cell 4
  simp at z0 z1 z2 z3 z4
  clear hd1 hb1
  go_wp2_with fail
  refine bodyPost_ret (v := .tuple #[.agg #[.int .i64 a1, .int .i64 a2, .int .i64 a3, .bool a4, .slice A1 a5.length k1], .bool true]) (by simp [results, Try.results16, go_sem, z0, z1, z2, z3, z4]) rfl ⟨_, rfl, ?_, ?_⟩
  · refine (HD1.out.mono (by simp; omega)).keep (S := fun k => k < w.heap.size + 2) ((((((Only.refl _ _).setCell (.inl (by simp)) _).setCell (.inl (by simp)) _).setCell (.inl (by simp)) _).setCell (.inl (by simp)) _).setCell (.inl (by simp)) _ |>.setCell (.inl (by simp)) _) (fun k hk => ?_)
    have := HD1.out.lt hk
    simp at this; omega
  · exact (((((HB1.out.setCell (by simp) _).setCell (by simp) _).setCell (by simp) _).setCell (by simp) _).setCell (by simp) _).setCell (by simp) _
theorem array_no (w : World) (B p : Nat) (sz : Int) (q n c : Nat) (R : List (Ar × Value)) (ref : Int) (h : HpI w B p sz (.slice (some ⟨q, 0, none⟩) n c) R) (h1 : ref < 1 ∨ n < ref) :
    Calls Try.prog 16 #[.pointer (some ⟨p, 0, none⟩), .int .i64 ref] w fun e w' => e = .returned (.tuple #[.agg #[.int .i64 0, .int .i64 0, .int .i64 0, .bool false, .slice none 0 0], .bool false]) ∧ Below w.heap.size w w' := by
  have H := Lib.hid h
  have H1 := Lib.hid h1
  clear h h1
  go_enter Try.func16, Try.ntmps16
  go_wp2_with fail
  refine (at_no _ B p sz q n c R ref (H.out.below ((Below.refl _ _).alloc (Nat.le_refl _) _)) H1.out).mono ?_
  rintro e w' ⟨rfl, rfl⟩
  go_wp2_with fail
  refine bodyPost_ret (v := .tuple #[.agg #[.int .i64 0, .int .i64 0, .int .i64 0, .bool false, .slice none 0 0], .bool false]) (by simp [results, Try.results16, go_sem]) rfl ⟨rfl, ?_⟩
  exact (Below.refl _ _).alloc (Nat.le_refl _) _
theorem get_yes (w : World) (B p : Nat) (sz : Int) (q n c i j : Nat) (R : List (Ar × Value)) (x : Ar × Value) (ref at_ : Int) (h : HpI w B p sz (.slice (some ⟨q, 0, none⟩) n c) R) (hn : (n : Int) ≤ 1000000) (h1 : 1 ≤ ref) (h2 : ref ≤ n)
    (hx : R[i]? = some x) (hi : ref.toNat - 1 = i) (hj : at_ = (j : Int)) (hd : j < x.1.data.length) (_hl : x.1.data.length ≤ 1000000) :
    Calls Try.prog 19 #[.pointer (some ⟨p, 0, none⟩), .int .i64 ref, .int .i64 at_] w fun e w' => e = .returned (.tuple #[.int .u8 (x.1.data.getD j 0), .bool true]) ∧ w = w' := by
  subst hj
  have c4 := h.cell rfl hx (show 4 < 5 by omega)
  simp [cells5] at c4
  obtain ⟨g, cD, hD, hcell, _, _⟩ := (h.dat i x hx).cell hd
  rw [hD] at c4
  have HX := Lib.hid (h.dat i x hx).byte
  have H := Lib.hid h
  have HI := Lib.hid hi
  clear h hx hi hD HX
  generalize x.1.data.getD j 0 = z at *
  generalize x.1.data.length = m at *
  go_enter Try.func19, Try.ntmps19
  go_wp2_with fail
  refine (at_yes _ B p sz q n c i R ref H.out h1 h2 hn HI.out).mono ?_
  rintro e w' ⟨rfl, rfl⟩
  go_wp2_with fail
  go_ret2
  exact ⟨rfl, rfl⟩
theorem get_out (w : World) (B p : Nat) (sz : Int) (q n c i : Nat) (R : List (Ar × Value)) (x : Ar × Value) (ref at_ : Int) (h : HpI w B p sz (.slice (some ⟨q, 0, none⟩) n c) R) (hn : (n : Int) ≤ 1000000) (h1 : 1 ≤ ref) (h2 : ref ≤ n)
    (hx : R[i]? = some x) (hi : ref.toNat - 1 = i) (hd : at_ < 0 ∨ (x.1.data.length : Int) ≤ at_) :
    Calls Try.prog 19 #[.pointer (some ⟨p, 0, none⟩), .int .i64 ref, .int .i64 at_] w fun e w' => e = .returned (.tuple #[.int .u8 0, .bool false]) ∧ w = w' := by
  have c4 := h.cell rfl hx (show 4 < 5 by omega)
  simp [cells5] at c4
  obtain ⟨A, cD, hD, _⟩ := (h.dat i x hx).slice
  rw [hD] at c4
  have H := Lib.hid h
  have HI := Lib.hid hi
  clear h hx hi hD
  generalize x.1.data.length = m at *
  by_cases h0 : at_ < 0
  · clear hd
    go_enter Try.func19, Try.ntmps19
    go_wp2_with fail
    refine (at_yes _ B p sz q n c i R ref H.out h1 h2 hn HI.out).mono ?_
    rintro e w' ⟨rfl, rfl⟩
    go_wp2_with fail
    go_ret2
    exact ⟨rfl, rfl⟩
  · have h3 : (m : Int) ≤ at_ := by omega
    clear hd
    go_enter Try.func19, Try.ntmps19
    go_wp2_with fail
    refine (at_yes _ B p sz q n c i R ref H.out h1 h2 hn HI.out).mono ?_
    rintro e w' ⟨rfl, rfl⟩
    go_wp2_with fail
    go_ret2
    exact ⟨rfl, rfl⟩
theorem get_no (w : World) (B p : Nat) (sz : Int) (q n c : Nat) (R : List (Ar × Value)) (ref at_ : Int) (h : HpI w B p sz (.slice (some ⟨q, 0, none⟩) n c) R) (h1 : ref < 1 ∨ n < ref) :
    Calls Try.prog 19 #[.pointer (some ⟨p, 0, none⟩), .int .i64 ref, .int .i64 at_] w fun e w' => e = .returned (.tuple #[.int .u8 0, .bool false]) ∧ w = w' := by
  have H := Lib.hid h
  have H1 := Lib.hid h1
  clear h h1
  go_enter Try.func19, Try.ntmps19
  go_wp2_with fail
  refine (at_no _ B p sz q n c R ref H.out H1.out).mono ?_
  rintro e w' ⟨rfl, rfl⟩
  go_wp2_with fail
  go_ret2
  exact ⟨rfl, rfl⟩
theorem count_c (w : World) (B p : Nat) (sz : Int) (V : Value) (R : List (Ar × Value)) (h : HpI w B p sz V R) :
    Calls Try.prog 18 #[.pointer (some ⟨p, 0, none⟩)] w fun e w' => e = .returned (.int .i64 R.length) ∧ w = w' := by
  have hc := h.blk.cell 1
  simp at hc
  obtain ⟨A, c, rfl, _⟩ := own_slice h.row
  clear h
  go_enter Try.func18, Try.ntmps18
  go_wp2
  go_ret
  exact ⟨rfl, rfl⟩
end Go.Proofs.Ytjmpnkhgligdlaa
