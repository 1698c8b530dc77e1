/- MERGED by mergev.py: XQe XSz. -/
import Derived.Test.YtpihjhfaeloapaaVi
import Derived.Laws.StructEq
import Derived.ChangeKeysEq
import Derived.Test.YtpihjhfaeloapaaVk
import Derived.Test.YtpihjhfaeloapaaVw
import Derived.Test.YtpihjhfaeloapaaVv
import Derived.Test.YtpihjhfaeloapaaView
import Derived.Maps.AppendAt
import Derived.Deep.CutBlock
import Derived.Deep.DeepCutAuto
import Derived.Deep.RegionHeld
import Derived.Lib.QuietBelow
import Derived.BigQuiet
import Derived.Deep.QuietTactic
namespace Go.Proofs.Ytpihjhfaeloapaa
open Go.RowKit On Th
theorem info_u32 : (Try.prog.info? 41).isSome = true := by kernel_rfl
theorem cells_u32 : Try.prog.cellsOf 41 = 1 := by kernel_rfl
theorem eq_items (cs : Array Value) (w : World) (l : List Nat) (h : ∀ k ∈ l, ∃ x, cs[k]? = some (.int .u32 x)) : (Op.eqItems 9998 41 1 cs cs l).run Try.prog w = .ok true w := by
  induction l with
  | nil => simp [Op.eqItems]
  | cons k l ih =>
    obtain ⟨x, hx⟩ := h k List.mem_cons_self
    have hi := ih (fun j hj => h j (List.mem_cons_of_mem _ hj))
    have hp : ∀ wq, (part 41 cs (k * 1)).run Try.prog wq = .ok (.int .u32 x) wq := fun wq => by
      rw [Nat.mul_one]
      go_simp
    simp only [Op.eqItems, Sem.run_bind, hp, Result.andThen_ok]
    go_simp
theorem eq_regs (cs : Array Value) (w : World) (h : ∀ k, k < 16 → ∃ x, cs[k]? = some (.int .u32 x)) : (Op.equalIn 9999 42 (.agg cs) (.agg cs)).run Try.prog w = .ok true w := by
  obtain ⟨i, hi⟩ := Option.isSome_iff_exists.mp info_u32
  have hu : Try.prog.underlying 42 = some (.array 16 41) := by kernel_rfl
  rw [run_equalIn_array w 9998 _ _ hu hi, cells_u32]
  exact eq_items cs w _ (fun k hk => h k (List.mem_range.mp hk))
set_option maxRecDepth 100000 in
theorem eq_chip0 (r0 r1 r2 r3 r4 r5 r6 r7 r8 r9 r10 r11 r12 r13 r14 r15 s n y : Int) (nf zf cf vf : Bool) (w : World) :
  (Op.equalIn 10000 44 (.agg #[.int .u32 r0, .int .u32 r1, .int .u32 r2, .int .u32 r3, .int .u32 r4, .int .u32 r5, .int .u32 r6, .int .u32 r7, .int .u32 r8, .int .u32 r9, .int .u32 r10, .int .u32 r11, .int .u32 r12, .int .u32 r13, .int .u32 r14, .int .u32 r15, .bool nf, .bool zf, .bool cf, .bool vf, .int .i64 s, .int .i64 n, .int .i64 y]) (.agg #[.int .u32 r0, .int .u32 r1, .int .u32 r2, .int .u32 r3, .int .u32 r4, .int .u32 r5, .int .u32 r6, .int .u32 r7, .int .u32 r8, .int .u32 r9, .int .u32 r10, .int .u32 r11, .int .u32 r12, .int .u32 r13, .int .u32 r14, .int .u32 r15, .bool nf, .bool zf, .bool cf, .bool vf, .int .i64 s, .int .i64 n, .int .i64 y])).run Try.prog w = .ok true w := by
  rw [run_equalIn_agg w _ _ _ _ rfl (by kernel_rfl)]
  go_simp
  have e42 := eq_regs #[.int .u32 r0, .int .u32 r1, .int .u32 r2, .int .u32 r3, .int .u32 r4, .int .u32 r5, .int .u32 r6, .int .u32 r7, .int .u32 r8, .int .u32 r9, .int .u32 r10, .int .u32 r11, .int .u32 r12, .int .u32 r13, .int .u32 r14, .int .u32 r15] w (fun k hk => by
    have hc : k = 0 ∨ k = 1 ∨ k = 2 ∨ k = 3 ∨ k = 4 ∨ k = 5 ∨ k = 6 ∨ k = 7 ∨ k = 8 ∨ k = 9 ∨ k = 10 ∨ k = 11 ∨ k = 12 ∨ k = 13 ∨ k = 14 ∨ k = 15 := by omega
    rcases hc with rfl | rfl | rfl | rfl | rfl | rfl | rfl | rfl | rfl | rfl | rfl | rfl | rfl | rfl | rfl | rfl <;> exact ⟨_, rfl⟩)
  rw [e42]
  rfl
theorem eq_chip (c : Ch) (h : c.ok) (w : World) : (Op.equalIn 10000 44 (.agg c.cells.toArray) (.agg c.cells.toArray)).run Try.prog w = .ok true w := by
  obtain ⟨r0, r1, r2, r3, r4, r5, r6, r7, r8, r9, r10, r11, r12, r13, r14, r15, hRR⟩ := sixteen h.len
  unfold Ch.cells
  rw [hRR]
  exact eq_chip0 r0 r1 r2 r3 r4 r5 r6 r7 r8 r9 r10 r11 r12 r13 r14 r15 _ _ _ _ _ _ _ w
end Go.Proofs.Ytpihjhfaeloapaa
namespace Go.Proofs.Ytpihjhfaeloapaa
open Go.RowKit On Th
theorem trs_trb' {tp : Nat} {tg : Option Nat} {k : Nat} (h : TrS (some ⟨tp, 0, none⟩) tg k) : TrB tp tg k := by
  rcases h with ⟨tp', h1, h2⟩ | ⟨_, h⟩
  · injection h1 with h1; injection h1 with h1; exact .inl (by rw [h2, ← h1])
  · exact .inr h
theorem cells_u16o : Try.prog.cellsOf 79 = 1 := by kernel_rfl
theorem src_keepB {w w' : World} {A : Option Addr} {m size : Nat} {news : List Value} (h : Src w A m size news) (hb : Only (fun _ => False) w w') : Src w' A m size news :=
  ⟨h.len, h.none_, fun ad e j u hu => by
    have := h.cell ad e j u hu
    rw [hb.cell (block_lt_of_cell this) id]; exact this, h.one⟩
/-- halfwords that came in -/
theorem arg_odd {w : World} {v : Value} (u : Vw.Arg Try.prog w 24 v) : ∃ A c xs, v = .slice A (xs : List Int).length c ∧ Src w A xs.length 1 (xs.map (Value.int .u16)) ∧ (A = none → c = 0) ∧ ∀ x ∈ xs, 0 ≤ x ∧ x ≤ 65535 := by
  rcases Vw.Arg.slice Try.underlying24 u with rfl | ⟨a, n, c, rfl, h1, h2, h3, h4⟩
  · exact ⟨none, 0, [], rfl, ⟨by simp, fun _ => rfl, fun _ _ j u hu => by simp at hu, by simp⟩, fun _ => rfl, by simp⟩
  · obtain ⟨xs, g1, g2, g3, g4⟩ := Vw.viewed_ints Try.underlying79 cells_u16o (cap := n) (fun i hi => h4 i (by omega))
    subst g1
    refine ⟨some a, c, xs, rfl, ⟨by simp, fun h => (by cases h), fun ad e j u hu => ?_, fun u hu => ?_⟩, fun h => (by cases h), fun x hx => ?_⟩
    · injection e with e; subst e
      rw [List.getElem?_map, Option.map_eq_some_iff] at hu
      obtain ⟨y, hy, rfl⟩ := hu
      have hj : j < xs.length := (List.getElem?_eq_some_iff.mp hy).1
      have hs := g3 (by omega)
      obtain ⟨b, o, s⟩ := a
      dsimp only at hs
      subst hs
      have := g4 j hj
      rw [Vw.add_none, this, List.getD_eq_getElem?_getD, hy]
      rfl
    · rw [List.mem_map] at hu
      obtain ⟨y, _, rfl⟩ := hu
      rfl
    · have := g2 x hx
      simp [Lit.wf, IntKind.min, IntKind.max, IntKind.signed, IntKind.bits] at this
      omega
/-- the code that is built -/
structure Bld (B : Nat) (w0 w : World) (v : Value) (q : Nat) (hs : List Int) : Prop where
  h : w.ownsRow B 79 1 v q (hs.map (Value.int .u16))
  r : ∀ x ∈ hs, 0 ≤ x ∧ x ≤ 65535
  b : Below B w0 w
/-- both chips, both memories, both lists behind k rounds -/
structure SQ (N : Nat) (w0 : World) (m g pc tp rm rg xp up : Nat) (k : Nat) (w : World) (c : Ch) (f : Nat → Int) (t1 ug : Option Nat) (L : List Ev) : Prop where
  C : ChW w pc c
  X : ChW w xp c
  M : MW w m g f
  R : Mm w 78 rm rg f
  T : Tr w tp t1 L
  U : Us w up ug L
  len : L.length ≤ k
  ap : ∀ j, TrB tp t1 j → ¬ TrB up ug j
  lo : ∀ j, TrB tp t1 j ∨ TrB up ug j → N ≤ j
  b : Below N w0 w
theorem us_far {w : World} {p : Nat} {g : Option Nat} {l : List Ev} (h : Us w p g l) {b : Nat} {t : TypeId} {cs : Array Value} (hb : Blk w b t cs) (h1 : t ≠ 45) (h2 : t ≠ 51) : ¬ TrB p g b := fun hk => by
  obtain ⟨v, k1, k2, k3⟩ := h
  rcases hk with rfl | hk
  · exact hb.ne k1 h1 rfl
  · obtain ⟨A, c, rfl, ⟨rfl, _⟩ | ⟨gg, cur, rfl, _, hg, _⟩⟩ := own_slice k2
    · rw [← k3] at hk; simp [Value.ownBlock] at hk
    · rw [← k3] at hk
      simp [Value.ownBlock] at hk
      subst hk
      exact Blk.ne (w := w) hb hg h2 rfl
theorem stepS_ev (mp : Value) (c : Ch) (f : Nat → Int) : (stepS mp c f).2.2.length ≤ 1 := by
  unfold stepS
  split
  · split
    · split <;> simp
    · simp
  · simp
set_option maxRecDepth 100000 in
theorem eq_ev (a b c d : Int) : ∀ w, (Op.equalIn 10000 51 (.agg #[.int .i64 a, .int .i64 b, .int .i64 c, .int .i64 d]) (.agg #[.int .i64 a, .int .i64 b, .int .i64 c, .int .i64 d])).run Try.prog w = .ok true w := fun w => by
  rw [run_equalIn_agg w _ _ _ _ rfl (by kernel_rfl)]
  go_simp
/-- the document's step, as a contract -/
def RStepC : Prop := ∀ (w : World) (c : Ch) (rm rg up : Nat) (f : Nat → Int) (mp : Value) (ug : Option Nat) (L : List Ev) (_ : c.ok) (_ : Mm w 78 rm rg f) (_ : Us w up ug L) (_ : L.length < 200000),
  Calls Try.prog 22 #[.agg c.cells.toArray, .pointer (some ⟨rm, 0, none⟩), .pointer (some ⟨up, 0, none⟩)] w fun e w' => RStepP mp rm rg up ug c f L w e w'
set_option maxHeartbeats 32000000 in
set_option maxRecDepth 100000 in
theorem chipSteps_c (hrs : RStepC) (w : World) (A A1 A2 : Option Addr) (n c n1 c1 c2 : Nat) (how : Int) (ods : List Int) (hr : Vw.RowsOf w A n 6 (Vw.Viewed Try.prog w 38)) (hw1 : WordsIn w A1 n1) (hn1 : (n1 : Int) ≤ 140737488351232) (hod : Src w A2 ods.length 1 (ods.map (Value.int .u16))) (hoc : A2 = none → c2 = 0) (hor : ∀ x ∈ ods, 0 ≤ x ∧ x ≤ 65535) :
    Calls Try.prog 3 #[.slice A n c, .slice A1 n1 c1, .int .i64 how, .slice A2 ods.length c2] w fun e w' => e = .returned (.bool true) ∧ Below w.heap.size w w' := by
  obtain ⟨i0, hi0, hz0, hz1, hz2⟩ := info_parts2 info_u16
  have HR := Lib.hid hr; have HW1 := Lib.hid hw1; have HN1 := Lib.hid hn1; have HOD := Lib.hid hod; have HOR := Lib.hid hor; have HRS := Lib.hid hrs; have HOC := Lib.hid hoc
  obtain ⟨on, hon⟩ : ∃ on, ods.length = on := ⟨_, rfl⟩
  rw [hon] at HOD ⊢
  have HON := Lib.hid hon
  clear hr hw1 hn1 hod hor hrs hoc hon
  go_enter Try.func3, Try.ntmps3
  go_wp2_with fail
  refine (memNew_c w).mono ?_
  rintro e w1 ⟨m, g, rfl, hm, hm1, hg1, hb1⟩
  have HM1 : Hid (MW w1 m g (fun _ => 0)) := hm
  have HB1 := Lib.hid hb1
  have HMG := Lib.hid (show w.heap.size ≤ m ∧ w.heap.size ≤ g from ⟨hm1, hg1⟩)
  clear hm hm1 hg1 hb1
  go_wp2_with fail
  refine (chipNew_c w1).mono ?_
  rintro e w2 ⟨rfl, hc, hb2⟩
  have HC2 := Lib.hid hc
  have HM2 : Hid (MW w2 m g (fun _ => 0)) := HM1.out.only (S := fun _ => False) (Only.of_below hb2) id id
  have HB2 := Lib.hid (HB1.out.trans (hb2.mono HB1.out.size))
  have HPC := Lib.hid (show w.heap.size ≤ w1.heap.size from HB1.out.size)
  obtain ⟨pc, hpc⟩ : ∃ pc, pc = w1.heap.size := ⟨_, rfl⟩
  rw [← hpc] at HC2 HPC ⊢
  clear hc hb2 HB1 hpc HM1
  go_wp2_with fail
  refine (trNew_c w2).mono ?_
  rintro e w3 ⟨rfl, rfl⟩
  obtain ⟨w3, hw3⟩ : ∃ w3, w3 = w2.alloc (.cells #[.slice none 0 0] 76) := ⟨_, rfl⟩
  obtain ⟨tp, htp⟩ : ∃ tp, tp = w2.heap.size := ⟨_, rfl⟩
  have hT : Tr w3 tp none [] := by rw [hw3, htp]; exact Tr.new w2
  have hO3 : Below w2.heap.size w2 w3 := by rw [hw3]; exact (Below.refl _ _).alloc (Nat.le_refl _) _
  have HT3 := Lib.hid hT
  have HC3 : Hid (ChW w3 pc Ch0) := HC2.out.only (S := fun _ => False) (Only.of_below hO3) id
  have HM3 : Hid (MW w3 m g (fun _ => 0)) := HM2.out.only (S := fun _ => False) (Only.of_below hO3) id id
  have HB3 := Lib.hid (HB2.out.trans (hO3.mono HB2.out.size))
  have HTL := Lib.hid (show w.heap.size ≤ tp by rw [htp]; exact HB2.out.size)
  rw [← hw3, ← htp]
  clear hw3 htp hT hO3 HC2 HM2 HB2
  go_wp2_with fail
  refine (known_c w3).mono ?_
  rintro e w4 ⟨rfl, hb4⟩
  have HC4 : Hid (ChW w4 pc Ch0) := HC3.out.only (S := fun _ => False) (Only.of_below hb4) id
  have HM4 : Hid (MW w4 m g (fun _ => 0)) := HM3.out.only (S := fun _ => False) (Only.of_below hb4) id id
  have HT4 : Hid (Tr w4 tp none []) := HT3.out.keep (Only.of_below (S := fun _ => False) hb4) (fun _ _ => id)
  have HB4 := Lib.hid (HB3.out.trans (hb4.mono HB3.out.size))
  clear hb4 HC3 HM3 HT3 HB3
  go_wp2_with fail
  refine (rNew_c w4).mono ?_
  rintro e w5 ⟨rm, rg, rfl, hm5, hr1, hr2, hb5⟩
  have HO5 : Hid (Only (fun _ => False) w4 w5) := Only.of_below hb5
  have HC5 : Hid (ChW w5 pc Ch0) := HC4.out.only HO5.out id
  have HM5 : Hid (MW w5 m g (fun _ => 0)) := HM4.out.only HO5.out id id
  have HT5 : Hid (Tr w5 tp none []) := HT4.out.keep HO5.out (fun _ _ => id)
  have HB5 := Lib.hid (HB4.out.trans (hb5.mono HB4.out.size))
  have HR5 := Lib.hid hm5
  have HRG : Hid (w.heap.size ≤ rg ∧ g ≠ rg ∧ pc ≠ rg ∧ rg < w5.heap.size ∧ g < w5.heap.size) := by
    obtain ⟨_, cs, h, _⟩ := HM4.out
    have := h.lt
    have := HC4.out.1.lt
    have := HB4.out.size
    obtain ⟨_, cs', h', _⟩ := hm5
    have := h'.lt
    have := HO5.out.size
    exact ⟨by omega, by omega, by omega, by omega, by omega⟩
  clear hm5 hr1 hr2 hb5 HO5 HC4 HM4 HT4 HB4
  go_upto_block 0 with (fail)
  go_cut [13] (fun v wx => ∃ (hs : List Int) (B : Option Addr) (d q : Nat), q ≤ 80 ∧ v = .slice B q d ∧ Bld w5.heap.size w5 wx (.slice B q d) q hs)
  case first =>
    go_wp2_with fail
    go_loopw [13, 14] (fun v i wx => ∃ (k : Nat) (hs : List Int) (B : Option Addr) (d q : Nat), k ≤ n ∧ k ≤ 40 ∧ q ≤ 2 * k ∧ i = .int .i64 k ∧ v = .slice B q d ∧ Bld w5.heap.size w5 wx (.slice B q d) q hs) (fun _ i _ => 40 - (intOf i).toNat)
    case atStart => exact ⟨0, [], none, 0, 0, by omega, by omega, by omega, rfl, rfl, World.ownsRow_nil _ _ _ _, by simp, Below.refl _ _⟩
    case round =>
      obtain ⟨k, hs0, B, d, q, hkn, hk3, hqk, rfl, rfl, hs⟩ := hrel
      have HS := Lib.hid hs
      have hb := hs.b
      clear hs
      by_cases hlt : k < n
      · by_cases h30 : (k : Int) < 40
        · cases A with
          | none => have := HR.out.none_ rfl; omega
          | some ad =>
            obtain ⟨b, o, s⟩ := ad
            obtain ⟨rfl, hbw, es, hl, hv, hc⟩ := HR.out.cell b o s k rfl hlt
            obtain ⟨x0, x1, x2, x3, x4, x5, rfl⟩ := viewed_raw hv
            have HO : Hid (Only (fun _ => False) w wr) := (Only.of_below HB5.out).trans (Only.of_below hb) (fun _ _ h => h)
            have c0 : wr.cell? ⟨b, o + k * 6, none⟩ = some (.int .i64 x0) := by rw [HO.out.cell (p := ⟨b, o + k * 6, none⟩) hbw id]; exact hc 0 (by omega)
            have c1 : wr.cell? ⟨b, o + k * 6 + 1, none⟩ = some (.int .i64 x1) := by rw [HO.out.cell (p := ⟨b, o + k * 6 + 1, none⟩) hbw id]; exact hc 1 (by omega)
            have c2 : wr.cell? ⟨b, o + k * 6 + 2, none⟩ = some (.int .i64 x2) := by rw [HO.out.cell (p := ⟨b, o + k * 6 + 2, none⟩) hbw id]; exact hc 2 (by omega)
            have c3 : wr.cell? ⟨b, o + k * 6 + 3, none⟩ = some (.int .i64 x3) := by rw [HO.out.cell (p := ⟨b, o + k * 6 + 3, none⟩) hbw id]; exact hc 3 (by omega)
            have c4 : wr.cell? ⟨b, o + k * 6 + 4, none⟩ = some (.int .i64 x4) := by rw [HO.out.cell (p := ⟨b, o + k * 6 + 4, none⟩) hbw id]; exact hc 4 (by omega)
            have c5 : wr.cell? ⟨b, o + k * 6 + 5, none⟩ = some (.int .i64 x5) := by rw [HO.out.cell (p := ⟨b, o + k * 6 + 5, none⟩) hbw id]; exact hc 5 (by omega)
            have HZ : Hid (w5.heap.size ≤ wr.heap.size) := hb.size
            have hkn' : (k : Int) < (n : Int) := by omega
            clear hl hv hc hbw HO hb hlt
            have HKN := Lib.hid hkn; have HK3 := Lib.hid hk3
            clear hkn hk3
            go_wp2_with fail
            refine (ins_c x0 x1 x2 x3 x4 x5 _).mono ?_
            rintro e w6 ⟨x, hxr, rfl, hb1⟩
            have HXR := Lib.hid hxr
            clear hxr c0 c1 c2 c3 c4 c5
            obtain ⟨op, dd, nn, mm, imm, cond⟩ := x
            dsimp only
            go_wp2_with fail
            refine (refEncode_c ⟨op, dd, nn, mm, imm, cond⟩ HXR.out w6).mono ?_
            rintro e w7 ⟨sv, rfl, hw3, hb3⟩
            have hb7 : Below wr.heap.size wr w7 := hb1.trans (hb3.mono hb1.size)
            obtain ⟨A7, d7, rfl⟩ : ∃ A7 d7, sv = .slice A7 (encL ⟨op, dd, nn, mm, imm, cond⟩).length d7 := by obtain ⟨A7, d7, e, _⟩ := hw3; exact ⟨A7, d7, e⟩
            have HSR := Lib.hid hw3.src
            have hel : 1 ≤ (encL ⟨op, dd, nn, mm, imm, cond⟩).length ∧ (encL ⟨op, dd, nn, mm, imm, cond⟩).length ≤ 2 := by
              rcases (enc_range _ HXR.out).2 with h | h <;> omega
            obtain ⟨hel1, hel2⟩ := hel
            have HNO : Hid (A7 = none → d7 = 0) := fun e => by have := HSR.out.none_ e; omega
            have HO3 := Lib.hid (own_only HS.out.h (Only.of_below (S := fun _ => False) hb7) (fun _ _ => id))
            have HB3 : Hid (Below w5.heap.size w5 w7) := HS.out.b.trans (hb7.mono HZ.out)
            have hsw3 : w5.heap.size ≤ w7.heap.size := HB3.out.size
            have HER := Lib.hid (enc_range _ HXR.out).1
            generalize encL ⟨op, dd, nn, mm, imm, cond⟩ = el at *
            clear hw3 hb3 hb7
            obtain ⟨en, hen⟩ : ∃ en, el.length = en := ⟨_, rfl⟩
            rw [hen] at hel1 hel2 HSR ⊢
            clear hen
            have hk3 := HK3.out
            go_wp2_with (at_builtin; go_loud (refine wpList_append_at _ rfl (.tmp 56) (.tmp 62) _ rfl w5.heap.size 79 i0 _ 1 2 Try.underlying24 hi0 hz0 hz1 hz2 rfl (by omega) _ q (hs0.map (Value.int .u16)) rfl HO3.out A7 en d7 (el.map (Value.int .u16)) rfl HSR.out HNO.out (by unfold maxLen; omega) (by omega) hsw3 ?_))
            intro A8 c8 w8 hown5 hg5 hn5
            have HB8 : Hid (Below w5.heap.size w5 w8) := HB3.out.trans (((Only.refl (fun j => w5.heap.size ≤ j) w7).grown hg5 (fun j hj => .inl (HO3.out.lt j hj).1)).below hsw3 (fun j h => h))
            have HB9 : Hid (Bld w5.heap.size w5 w8 (.slice A8 (q + en) c8) (q + en) (hs0 ++ el)) := by
              refine ⟨?_, fun i hi => ?_, HB8.out⟩
              · rw [List.map_append]; exact hown5
              · rw [List.mem_append] at hi
                rcases hi with hi | hi
                · exact HS.out.r i hi
                · have := HER.out i hi; omega
            clear hown5 hg5 hn5
            go_wp2_with fail
            have hk1 := HKN.out
            exact ⟨⟨k + 1, hs0 ++ el, A8, c8, q + en, by omega, by omega, by omega, by go_num, rfl, HB9.out⟩, by simp [intOf]; omega⟩
        · go_wp2_with fail
          go_meet
          exact ⟨hs0, B, d, q, by omega, rfl, HS.out⟩
      · go_wp2_with fail
        go_meet
        exact ⟨hs0, B, d, q, by omega, rfl, HS.out⟩
  case rest =>
    obtain ⟨hs0, B, d, q, hq80, rfl, hs⟩ := hcut
    have HS := Lib.hid hs
    have hwz : w5.heap.size ≤ wc.heap.size := hs.b.size
    clear hs
    have HSO := Lib.hid (src_keepB HOD.out (((Only.of_below (S := fun _ => False) HB5.out)).trans (Only.of_below HS.out.b) (fun _ _ h => h)))
    go_upto_region 12 with (fail)
    obtain ⟨wy, rfl⟩ : ∃ wy, wy = wc := ⟨_, rfl⟩
    go_cut [71] (fun v wx => ∃ b : Bool, v = .bool b ∧ (b = true → (on : Int) < 20) ∧ wy = wx)
    case first =>
      go_wp2_with fail
      all_goals
        go_meet
        first | exact ⟨false, rfl, by simp, rfl⟩ | exact ⟨_, rfl, fun h => by simpa using h, rfl⟩
    case rest =>
      obtain ⟨bo, rfl, hb20, rfl⟩ := hcut
      have HB20 := Lib.hid hb20
      clear hb20
      go_upto_if 71 with (fail)
      go_cut [13] (fun v wx => ∃ (hs : List Int) (B : Option Addr) (d q : Nat), q ≤ 100 ∧ v = .slice B q d ∧ Bld w5.heap.size w5 wx (.slice B q d) q hs)
      case first =>
        cases bo
        · go_wp2_with fail
          go_meet
          exact ⟨hs0, B, d, q, by omega, rfl, HS.out⟩
        · have h20 : on < 20 := by have := HB20.out rfl; omega
          have hsw3 := hwz
          go_wp2_with (at_builtin; go_loud (refine wpList_append_at _ rfl (.tmp 72) (.tmp 73) _ rfl w5.heap.size 79 i0 _ 1 2 Try.underlying24 hi0 hz0 hz1 hz2 rfl (by omega) _ q (hs0.map (Value.int .u16)) rfl HS.out.h A2 on c2 (ods.map (Value.int .u16)) rfl HSO.out HOC.out (by unfold maxLen; omega) (by omega) hsw3 ?_))
          intro A8 c8 w8 hown5 hg5 hn5
          have HB8 : Hid (Below w5.heap.size w5 w8) := HS.out.b.trans (((Only.refl (fun j => w5.heap.size ≤ j) wy).grown hg5 (fun j hj => .inl (HS.out.h.lt j hj).1)).below hsw3 (fun j h => h))
          have HB9 : Hid (Bld w5.heap.size w5 w8 (.slice A8 (q + on) c8) (q + on) (hs0 ++ ods)) := by
            refine ⟨?_, fun i hi => ?_, HB8.out⟩
            · rw [List.map_append]; exact hown5
            · rw [List.mem_append] at hi
              rcases hi with hi | hi
              · exact HS.out.r i hi
              · exact HOR.out i hi
          clear hown5 hg5 hn5
          go_wp2_with fail
          go_meet
          exact ⟨hs0 ++ ods, A8, c8, q + on, by omega, rfl, HB9.out⟩
      case rest =>
        obtain ⟨hs1, B1, d1, q1, hq1, rfl, hs⟩ := hcut
        clear HSO HS HB20 HOC HOR HOD HON hwz hq80
        obtain ⟨wl, rfl⟩ : ∃ wl, wl = wc := ⟨_, rfl⟩
        have HOL : Hid (Only (fun _ => False) w5 wl) := Only.of_below hs.b
        have HCL := Lib.hid (HC5.out.only HOL.out id)
        have HML : Hid (MW wl m g (fun _ => 0)) := HM5.out.only HOL.out id id
        have HTL2 := Lib.hid (HT5.out.keep HOL.out (fun _ _ => id))
        have HRL := Lib.hid (rm_only HR5.out HOL.out id id)
        have HBL := Lib.hid (HB5.out.trans (hs.b.mono HB5.out.size))
        have HHS := Lib.hid (own_hs hs.h hs.r)
        have HBB : Hid (∀ b o s, B1 = some ⟨b, o, s⟩ → w5.heap.size ≤ b) := fun b o s e => (hs.h.lt b (by rw [e]; rfl)).1
        clear hs HC5 HM5 HT5 HR5
        have HLD := Lib.hid (load_yes wl m g (fun _ => 0) 100 B1 q1 d1 hs1 HML.out HHS.out (fun b o s e _ e' => by
          have := HBB.out b o s e
          have := HRG.out.2.2.2.2
          omega) (by unfold canLoad; omega))
        go_wp2_with fail
        refine (HLD.out).mono ?_
        rintro e w9 ⟨rfl, hm9, ho9⟩
        have HM9 : Hid (MW w9 m g _) := hm9
        have HC9 := Lib.hid (HCL.out.only ho9 (HCL.out.apart HML.out).2)
        have HR9 := Lib.hid (rm_only HRL.out ho9 (by obtain ⟨_, cs, h, _⟩ := HML.out; exact HRL.out.1.ne h (by decide)) (fun e => HRG.out.2.1 e.symm))
        have HT9 := Lib.hid (HTL2.out.keep ho9 (fun k hk e => by
          have e' : k = g := e
          subst e'
          obtain ⟨_, cs, h, _⟩ := HML.out
          exact HTL2.out.far h (by decide) (by decide) hk))
        have HB9 : Hid (Below w.heap.size w w9) := HBL.out.trans (ho9.below HBL.out.size (fun j e => by rw [e]; exact HMG.out.2))
        have HH9 := Lib.hid (HHS.out.only ho9 (fun b o s e _ e' => by
          have e2 : b = g := e'
          have := HBB.out b o s e
          have := HRG.out.2.2.2.2
          omega))
        clear hm9 ho9 HLD HML HCL HRL HTL2 HBL HHS HOL
        have HLD := Lib.hid (rload_yes w9 rm rg (fun _ => 0) 100 B1 q1 d1 hs1 HR9.out HH9.out (fun b o s e _ e' => by
          have := HBB.out b o s e
          have := HRG.out.2.2.2.1
          omega) (by unfold canLoad; omega))
        go_wp2_with fail
        refine (HLD.out).mono ?_
        rintro e w10 ⟨rfl, hr10, ho10⟩
        generalize loadB (fun _ => 0) (100 : Int).toNat hs1 q1 = F at *
        have HR10 := Lib.hid hr10
        have HC10 := Lib.hid (HC9.out.only ho10 HRG.out.2.2.1)
        have HM10 := Lib.hid (HM9.out.only ho10 (by obtain ⟨_, cs, h, _⟩ := HR9.out; exact HM9.out.1.ne h (by decide)) HRG.out.2.1)
        have HT10 := Lib.hid (HT9.out.keep ho10 (fun k hk e => by
          have e' : k = rg := e
          subst e'
          obtain ⟨_, cs, h, _⟩ := HR9.out
          exact HT9.out.far h (by decide) (by decide) hk))
        have HB10 : Hid (Below w.heap.size w w10) := HB9.out.trans (ho10.below HB9.out.size (fun j e => by rw [e]; exact HRG.out.1))
        clear hr10 ho10 HLD HR9 HC9 HM9 HT9 HB9 HH9 HBB
        have HWA : Hid (∀ b o s, A1 = some ⟨b, o, s⟩ → 0 < n1 → b < w.heap.size) := fun b o s e h0 => by
          obtain ⟨b', o', x, e', hb', _⟩ := HW1.out 0 h0
          rw [e'] at e
          injection e with e
          injection e with e
          omega
        go_wp2_with fail
        refine (begin_c w10 pc Ch0 A1 n1 c1 how HC10.out (HW1.out.only (Only.of_below (S := fun _ => False) HB10.out) (fun _ _ => id)) HN1.out (fun b o s e h0 => by
          have := HWA.out b o s e h0
          have := HPC.out
          omega)).mono ?_
        rintro e w11 ⟨rfl, cc, hc11, s1, s2, s3, s4, ho11⟩
        have HC11 := Lib.hid hc11
        have HAP := Lib.hid (HC10.out.apart HM10.out)
        have HM11 := Lib.hid (HM10.out.only ho11 (fun e => HAP.out.1 e.symm) (fun e => HAP.out.2 e.symm))
        have HR11 := Lib.hid (rm_only HR10.out ho11 (fun e => by have e' : rm = pc := e; exact HC10.out.1.ne HR10.out.1 (by decide) e'.symm) (fun e => HRG.out.2.2.1 e.symm))
        have HT11 := Lib.hid (HT10.out.keep ho11 (fun k hk e => by have e' : k = pc := e; subst e'; exact HT10.out.far HC10.out.1 (by decide) (by decide) hk))
        have HB11 : Hid (Below w.heap.size w w11) := HB10.out.trans (ho11.below HB10.out.size (fun j e => by rw [e]; exact HPC.out))
        clear hc11 ho11 s1 s2 s3 s4 HC10 HM10 HR10 HT10 HB10 HWA HW1 HN1
        obtain ⟨AG, hAG⟩ : ∃ AG : List Value, AG = cc.cells := ⟨_, rfl⟩
        have HRW : Hid (w11.rangeAt pc 0 AG) := fun j v hv => by
          rw [hAG] at hv
          rw [Nat.zero_add, HC11.out.1.cell, List.getElem?_toArray]; exact hv
        have HROW := Lib.hid (chip_row HC11.out.2)
        rw [← hAG] at HROW
        have HAG := Lib.hid hAG
        clear hAG
        go_upto_region 18 with (first | refine wpList_load_mid rfl 44 _ rfl pc 0 rfl AG _ HRW.out Try.underlying44 rfl HROW.out.1 ?_ | refine wpList_store_row rfl 44 _ _ rfl w11.heap.size AG.toArray rfl rfl 44 #[.int .u32 0, .int .u32 0, .int .u32 0, .int .u32 0, .int .u32 0, .int .u32 0, .int .u32 0, .int .u32 0, .int .u32 0, .int .u32 0, .int .u32 0, .int .u32 0, .int .u32 0, .int .u32 0, .int .u32 0, .int .u32 0, .bool false, .bool false, .bool false, .bool false, .int .i64 0, .int .i64 0, .int .i64 0] (Blk.new w11 _ _) HROW.out.2.1 HROW.out.2.2.1 HROW.out.2.2.2 ?_)
        obtain ⟨wZ, hwZ⟩ : ∃ wZ, wZ = w11.alloc (.cells #[.int .u32 0, .int .u32 0, .int .u32 0, .int .u32 0, .int .u32 0, .int .u32 0, .int .u32 0, .int .u32 0, .int .u32 0, .int .u32 0, .int .u32 0, .int .u32 0, .int .u32 0, .int .u32 0, .int .u32 0, .int .u32 0, .bool false, .bool false, .bool false, .bool false, .int .i64 0, .int .i64 0, .int .i64 0] 44) := ⟨_, rfl⟩
        have hBZ : Blk wZ w11.heap.size 44 #[.int .u32 0, .int .u32 0, .int .u32 0, .int .u32 0, .int .u32 0, .int .u32 0, .int .u32 0, .int .u32 0, .int .u32 0, .int .u32 0, .int .u32 0, .int .u32 0, .int .u32 0, .int .u32 0, .int .u32 0, .int .u32 0, .bool false, .bool false, .bool false, .bool false, .int .i64 0, .int .i64 0, .int .i64 0] := by rw [hwZ]; exact Blk.new w11 _ _
        have hOZ : Only (fun _ => False) w11 wZ := by rw [hwZ]; exact (Only.refl _ _).alloc _
        rw [← hwZ]
        have hXA : ChW (wZ.setRow w11.heap.size AG.toArray) w11.heap.size cc := ⟨by rw [← HAG.out]; exact setRow_heap _ _ _ _ _ _ hBZ, HC11.out.2⟩
        have hOX := setRow_only wZ w11.heap.size AG.toArray
        have HOA : Hid (Only (fun _ => False) w11 (wZ.setRow w11.heap.size AG.toArray)) := hOZ.trans hOX (fun i hi e => by have e' : i = w11.heap.size := e; omega)
        have HXA := Lib.hid hXA
        obtain ⟨wA, hwA⟩ : ∃ wA, wA = wZ.setRow w11.heap.size AG.toArray := ⟨_, rfl⟩
        rw [← hwA] at HXA HOA ⊢
        clear hwA hOX hOZ hBZ hwZ hXA
        obtain ⟨xp, hxp⟩ : ∃ xp, xp = w11.heap.size := ⟨_, rfl⟩
        rw [← hxp] at HXA ⊢
        have HXP : Hid (pc < xp ∧ g < xp ∧ rg < xp ∧ tp < xp ∧ w.heap.size ≤ xp) := by
          rw [hxp]
          obtain ⟨_, cs, hc, _⟩ := HM11.out
          obtain ⟨_, cs', hc', _⟩ := HR11.out
          exact ⟨HC11.out.1.lt, hc.lt, hc'.lt, HT11.out.lt tp (.inl rfl), HB11.out.size⟩
        have HCA := Lib.hid (HC11.out.only HOA.out id)
        have HMA : Hid (MW wA m g F) := HM11.out.only HOA.out id id
        have HRA := Lib.hid (rm_only HR11.out HOA.out id id)
        have HTA := Lib.hid (HT11.out.keep HOA.out (fun _ _ => id))
        have HBA : Hid (Below w.heap.size w wA) := HB11.out.trans (HOA.out.below HB11.out.size (fun _ h => h.elim))
        clear hxp HOA HC11 HM11 HR11 HT11 HB11 HRW HROW HAG
        go_upto_region 19 with (fail)
        obtain ⟨wB, hwB⟩ : ∃ wB, wB = wA.alloc (.cells #[.slice none 0 0] 45) := ⟨_, rfl⟩
        have hOB : Only (fun _ => False) wA wB := by rw [hwB]; exact (Only.refl _ _).alloc _
        have hUB : Us wB wA.heap.size none [] := by rw [hwB]; exact ⟨_, Blk.new wA _ _, World.ownsRow_nil _ _ _ _, rfl⟩
        rw [← hwB]
        obtain ⟨up, hup⟩ : ∃ up, up = wA.heap.size := ⟨_, rfl⟩
        rw [← hup] at hUB ⊢
        have HQ0 : Hid (SQ w.heap.size w m g pc tp rm rg xp up 0 wB cc F none none []) := by
          refine ⟨HCA.out.only hOB id, HXA.out.only hOB id, HMA.out.only hOB id id, rm_only HRA.out hOB id id, HTA.out.keep hOB (fun _ _ => id), hUB, Nat.le_refl _, fun j hj hk => ?_, fun j hj => ?_, HBA.out.trans (hOB.below HBA.out.size (fun _ h => h.elim))⟩
          · have h1 := HTA.out.lt j hj
            rcases hk with h | h
            · omega
            · cases h
          · rcases hj with h | h
            · rcases h with h | h
              · rw [h]; exact HTL.out
              · cases h
            · rcases h with h | h
              · rw [h, hup]; exact HBA.out.size
              · cases h
        clear hwB hOB hUB hup HCA HXA HMA HRA HTA HBA
        go_wp2_with fail
        go_loopw [17] (fun s wx => ∃ (k : Nat) (c : Ch) (f : Nat → Int) (t1 ug : Option Nat) (L : List Ev), k ≤ 60 ∧ s = .int .i64 k ∧ SQ w.heap.size w m g pc tp rm rg xp up k wx c f t1 ug L) (fun i _ => 60 - (intOf i).toNat)
        case atStart => exact ⟨0, cc, F, none, none, [], by omega, rfl, HQ0.out⟩
        case round =>
          obtain ⟨k, c, f, t1, ug, L, hk, rfl, hq⟩ := hrel
          have HQ := Lib.hid hq
          clear hq HQ0
          by_cases hlt : (k : Int) < 60
          · have hlen := HQ.out.len
            have hk59 : k < 60 := by omega
            go_wp2_with fail
            refine (step_c wr pc m g (some ⟨tp, 0, none⟩) t1 c f L HQ.out.C HQ.out.M (fun tp' e => by injection e with e; injection e with e; subst e; exact HQ.out.T) (fun a e => ⟨tp, by injection e with e; exact e.symm⟩) (by omega)).mono ?_
            rintro e w12 ⟨rfl, hc, hm, t3, ht, ho⟩
            obtain ⟨z, hz⟩ : ∃ z, stepS (.pointer (some ⟨m, 0, none⟩)) c f = z := ⟨_, rfl⟩
            have hev := stepS_ev (.pointer (some ⟨m, 0, none⟩)) c f
            rw [hz] at hc hm ht hev ⊢
            obtain ⟨c', f', evs⟩ := z
            dsimp only at hc hm ht hev ⊢
            have HZ := Lib.hid hz
            have HC := Lib.hid hc; have HM : Hid (MW w12 m g f') := hm; have HO := Lib.hid ho
            have HT : Hid (Tr w12 tp t3 (L ++ evs) ∧ (t3 = t1 ∨ ∃ j, t3 = some j ∧ wr.heap.size ≤ j)) := by
              rcases ht with ⟨h, _⟩ | ⟨tp', h1, h2, h3⟩
              · cases h
              · injection h1 with h1; injection h1 with h1; subst h1; exact ⟨h2, h3⟩
            clear hz hc hm ht ho
            have hrb : ∃ cs, Blk wr rg 5 cs := by obtain ⟨_, cs, h, _⟩ := HQ.out.R; exact ⟨cs, h⟩
            have hgb : ∃ cs, Blk wr g 5 cs := by obtain ⟨_, cs, h, _⟩ := HQ.out.M; exact ⟨cs, h⟩
            have HDA : Hid (∀ j, (j = xp ∨ j = rg ∨ j = rm ∨ TrB up ug j) → ¬ (j = pc ∨ j = g ∨ TrS (some ⟨tp, 0, none⟩) t1 j)) := fun j hj h => by
              obtain ⟨x1, x2, x3, x4, x5⟩ := HXP.out
              obtain ⟨y1, y2, y3, y4, y5⟩ := HRG.out
              obtain ⟨cs1, hrb⟩ := hrb
              obtain ⟨cs2, hgb⟩ := hgb
              rcases hj with rfl | rfl | rfl | hj
              · rcases h with h | h | h
                · omega
                · omega
                · exact HQ.out.T.far HQ.out.X.1 (by decide) (by decide) (trs_trb' h)
              · rcases h with h | h | h
                · omega
                · omega
                · exact HQ.out.T.far hrb (by decide) (by decide) (trs_trb' h)
              · rcases h with h | h | h
                · exact HQ.out.R.1.ne HQ.out.C.1 (by decide) h
                · exact HQ.out.R.1.ne hgb (by decide) h
                · exact HQ.out.T.far HQ.out.R.1 (by decide) (by decide) (trs_trb' h)
              · rcases h with h | h | h
                · subst h; exact us_far HQ.out.U HQ.out.C.1 (by decide) (by decide) hj
                · subst h; exact us_far HQ.out.U hgb (by decide) (by decide) hj
                · exact HQ.out.ap j (trs_trb' h) hj
            have HX12 := Lib.hid (HQ.out.X.only HO.out (HDA.out xp (.inl rfl)))
            have HR12 := Lib.hid (rm_only HQ.out.R HO.out (HDA.out rm (.inr (.inr (.inl rfl)))) (HDA.out rg (.inr (.inl rfl))))
            have HU12 := Lib.hid (HQ.out.U.keep HO.out (fun j hj => HDA.out j (.inr (.inr (.inr hj)))))
            have HB12 : Hid (Below w.heap.size w w12) := HQ.out.b.trans (HO.out.below HQ.out.b.size (fun j h => by
              rcases h with h | h | h
              · have := HPC.out; omega
              · have := HMG.out.2; omega
              · exact HQ.out.lo j (.inl (trs_trb' h))))
            have HULT : Hid (∀ j, TrB up ug j → j < wr.heap.size) := HQ.out.U.lt
            have HAP12 : Hid (∀ j, TrB tp t3 j → ¬ TrB up ug j) := fun j hj hk2 => by
              rcases HT.out.2 with h | ⟨i, h, hi⟩
              · rw [h] at hj; exact HQ.out.ap j hj hk2
              · rcases hj with hj | hj
                · exact HQ.out.ap j (.inl hj) hk2
                · rw [h] at hj; injection hj with hj
                  have := HULT.out j hk2
                  omega
            have HLO12 : Hid (∀ j, TrB tp t3 j → w.heap.size ≤ j) := fun j hj => by
              rcases HT.out.2 with h | ⟨i, h, hi⟩
              · rw [h] at hj; exact HQ.out.lo j (.inl hj)
              · rcases hj with hj | hj
                · exact HQ.out.lo j (.inl (.inl hj))
                · rw [h] at hj; injection hj with hj
                  have := HQ.out.b.size
                  omega
            have HLU : Hid (∀ j, TrB up ug j → w.heap.size ≤ j) := fun j hj => HQ.out.lo j (.inr hj)
            have HT12 := Lib.hid HT.out.1
            clear hrb hgb HDA HULT HO HT HQ
            have hL2 : (L ++ evs).length ≤ k + 1 := by rw [List.length_append]; omega
            have HRX : Hid (w12.rangeAt xp 0 c.cells) := fun j v hv => by
              rw [Nat.zero_add, HX12.out.1.cell, List.getElem?_toArray]; exact hv
            have HROW := Lib.hid (chip_row HX12.out.2)
            have HST := Lib.hid (HRS.out w12 c rm rg up f (.pointer (some ⟨m, 0, none⟩)) ug L HX12.out.2 HR12.out HU12.out (by omega))
            have HXB := Lib.hid HX12.out.1
            have HSZ : Hid (c.cells.toArray.size = c'.cells.toArray.size) := by show _ = _; rw [List.size_toArray, List.size_toArray, Ch.cells_len HX12.out.2, Ch.cells_len HC.out.2]
            obtain ⟨AG, hAG⟩ : ∃ AG : List Value, AG = c.cells := ⟨_, rfl⟩
            rw [← hAG] at HRX HROW HST HXB HSZ
            obtain ⟨AH, hAH⟩ : ∃ AG : List Value, AG = c'.cells := ⟨_, rfl⟩
            have HROW2 := Lib.hid (chip_row HC.out.2)
            rw [← hAH] at HSZ HROW2
            have HAH := Lib.hid hAH
            clear hAG hAH HX12
            go_wp2_with (refine wpList_load_mid rfl 44 _ rfl xp 0 rfl AG _ HRX.out Try.underlying44 rfl HROW.out.1 ?_)
            refine (HST.out).mono ?_
            rintro e w13 hp
            unfold RStepP at hp
            rw [HZ.out] at hp
            dsimp only at hp
            obtain ⟨rfl, hr13, ug', hu13, hug, ho13⟩ := hp
            rw [← HAH.out]
            have hrb : ∃ cs, Blk w12 rg 5 cs := by obtain ⟨_, cs, h, _⟩ := HR12.out; exact ⟨cs, h⟩
            have hgb : ∃ cs, Blk w12 g 5 cs := by obtain ⟨_, cs, h, _⟩ := HM.out; exact ⟨cs, h⟩
            have HC13 := Lib.hid (HC.out.only ho13 (fun h => by
              rcases h with h | h
              · exact HRG.out.2.2.1 h
              · exact us_far HU12.out HC.out.1 (by decide) (by decide) h))
            have HM13 := Lib.hid (HM.out.only ho13 (fun h => by
              rcases h with h | h
              · obtain ⟨cs, hrb⟩ := hrb
                exact HM.out.1.ne hrb (by decide) h
              · exact us_far HU12.out HM.out.1 (by decide) (by decide) h) (fun h => by
              rcases h with h | h
              · exact HRG.out.2.1 h
              · obtain ⟨cs, hgb⟩ := hgb
                exact us_far HU12.out hgb (by decide) (by decide) h))
            have HT13 := Lib.hid (HT12.out.keep ho13 (fun j hj h => by
              rcases h with h | h
              · subst h
                obtain ⟨cs, hrb⟩ := hrb
                exact HT12.out.far hrb (by decide) (by decide) hj
              · exact HAP12.out j hj h))
            have HX13 := Lib.hid (HXB.out.only ho13 (fun h => by
              rcases h with h | h
              · have := HXP.out.2.2.1; omega
              · exact us_far HU12.out HXB.out (by decide) (by decide) h))
            have HB13 : Hid (Below w.heap.size w w13) := HB12.out.trans (ho13.below HB12.out.size (fun j h => by
              rcases h with h | h
              · have := HRG.out.1; omega
              · exact HLU.out j h))
            have HAP13 : Hid (∀ j, TrB tp t3 j → ¬ TrB up ug' j) := fun j hj hk2 => by
              rcases hug with h | ⟨i, h, hi⟩
              · rw [h] at hk2; exact HAP12.out j hj hk2
              · rcases hk2 with hk2 | hk2
                · exact HAP12.out j hj (.inl hk2)
                · rw [h] at hk2; injection hk2 with hk2
                  have := HT12.out.lt j hj
                  omega
            have HLU13 : Hid (∀ j, TrB up ug' j → w.heap.size ≤ j) := fun j hj => by
              rcases hug with h | ⟨i, h, hi⟩
              · rw [h] at hj; exact HLU.out j hj
              · rcases hj with hj | hj
                · exact HLU.out j (.inl hj)
                · rw [h] at hj; injection hj with hj
                  have := HB12.out.size
                  omega
            have HR13 := Lib.hid hr13; have HU13 := Lib.hid hu13
            have HOKC := Lib.hid HC.out.2
            clear hr13 hu13 hug ho13 hrb hgb HC HM HT12 HXB HB12 HAP12 HLU HR12 HU12 HRX HROW HST HZ
            go_upto_region 24 with (refine wpList_store_row rfl 44 _ _ rfl xp AH.toArray rfl rfl 44 AG.toArray HX13.out HROW2.out.2.1 HSZ.out HROW2.out.2.2.2 ?_)
            have hX14 : ChW (w13.setRow xp AH.toArray) xp c' := ⟨by rw [← HAH.out]; exact setRow_heap _ _ _ _ _ _ HX13.out, HOKC.out⟩
            have hO14 := setRow_only w13 xp AH.toArray
            obtain ⟨w14, hw14⟩ : ∃ w14, w14 = w13.setRow xp AH.toArray := ⟨_, rfl⟩
            rw [← hw14] at hX14 hO14 ⊢
            clear hw14
            have HX14 := Lib.hid hX14
            have HC14 := Lib.hid (HC13.out.only hO14 (fun h => by have h' : pc = xp := h; have := HXP.out.1; omega))
            have HM14 := Lib.hid (HM13.out.only hO14 (fun h => by have h' : m = xp := h; exact HM13.out.1.ne HX13.out (by decide) h') (fun h => by have h' : g = xp := h; have := HXP.out.2.1; omega))
            have HR14 := Lib.hid (rm_only HR13.out hO14 (fun h => by have h' : rm = xp := h; exact HR13.out.1.ne HX13.out (by decide) h') (fun h => by have h' : rg = xp := h; have := HXP.out.2.2.1; omega))
            have HT14 := Lib.hid (HT13.out.keep hO14 (fun j hj h => by have h' : j = xp := h; subst h'; exact HT13.out.far HX13.out (by decide) (by decide) hj))
            have HU14 := Lib.hid (HU13.out.keep hO14 (fun j hj h => by have h' : j = xp := h; subst h'; exact us_far HU13.out HX13.out (by decide) (by decide) hj))
            have HB14 : Hid (Below w.heap.size w w14) := HB13.out.trans (hO14.below HB13.out.size (fun j h => by have h' : j = xp := h; have := HXP.out.2.2.2.2; omega))
            clear hX14 hO14 HC13 HM13 HR13 HT13 HU13 HB13 HX13 HSZ
            obtain ⟨uv, b1, b2, b3⟩ := HU14.out
            obtain ⟨UA, uc, rfl, _⟩ := own_slice b2
            have hcu : w14.cell? ⟨up, 0, none⟩ = some (.slice UA (L ++ evs).length uc) := (b1.cell 0).trans rfl
            have B2 := Lib.hid b2
            clear b1 b2 b3
            have HLEN := Lib.hid (fun (wq : World) (hq : Only (fun _ => False) w14 wq) => trLen_c wq tp t3 (L ++ evs) (HT14.out.keep hq (fun _ _ => id)))
            have heq : ∀ wq, (Op.equalIn 10000 44 (.agg AH.toArray) (.agg AH.toArray)).run Try.prog wq = .ok true wq := fun wq => by rw [HAH.out]; exact eq_chip c' HOKC.out wq
            have HS : Hid (∀ wq, Only (fun _ => False) w14 wq → wq.rangeAt pc 0 AH ∧ wq.rangeAt xp 0 AH ∧ wq.cell? ⟨xp, 20, none⟩ = some (.int .i64 c'.st) ∧ wq.cell? ⟨up, 0, none⟩ = some (.slice UA (L ++ evs).length uc)) := fun wq ho => by
              have h1 := HC14.out.only ho id
              have h2 := HX14.out.only ho id
              refine ⟨fun j v hv => ?_, fun j v hv => ?_, h2.rest.2.2.2.2.1, ?_⟩
              · rw [HAH.out] at hv
                rw [Nat.zero_add, h1.1.cell, List.getElem?_toArray]; exact hv
              · rw [HAH.out] at hv
                rw [Nat.zero_add, h2.1.cell, List.getElem?_toArray]; exact hv
              · rw [ho.cell (p := ⟨up, 0, none⟩) (HU14.out.lt up (.inl rfl)) id]; exact hcu
            obtain ⟨ln, hln⟩ : ∃ ln, (L ++ evs).length = ln := ⟨_, rfl⟩
            rw [hln] at HLEN HS hcu hL2 B2
            have HLN := Lib.hid hln
            generalize hst' : c'.st = s' at *
            have HST2 := Lib.hid hst'
            clear hln hst'
            have kf := HS.out w14.drew (Only.refl _ _).drew
            refine wp_region_held_drew (S := fun w' => w'.rangeAt pc 0 AH ∧ w'.rangeAt xp 0 AH ∧ w'.cell? ⟨xp, 20, none⟩ = some (.int .i64 s') ∧ w'.cell? ⟨up, 0, none⟩ = some (.slice UA ln uc)) (by kernel_rfl) (by exact kf) (fun hHeld => ?_)
            refine wpAnyH_take (i := 0) (v := ?_) rfl (by kernel_rfl) (by kernel_rfl) (by kernel_rfl) (fun _ _ _ h => h) (Or.inl ⟨by rfl, ?_⟩) (by assumption) ?_
            rotate_left
            · intro w hSw
              try dsimp only at hSw
              simp only [List.getElem_toArray, List.getElem_cons_zero]
              go_simp
              try with_reducible rfl
            simp only [List.getElem_toArray, List.getElem_cons_zero, Act.put, List.setIfInBounds_toArray, List.set_cons_zero, List.set_cons_succ]
            refine wpAnyH_take (i := 1) (v := ?_) rfl (by kernel_rfl) (by kernel_rfl) (by kernel_rfl) (fun _ _ _ h => h) (Or.inl ⟨by rfl, ?_⟩) (by assumption) ?_
            rotate_left
            · intro w hSw
              try dsimp only at hSw
              simp only [List.getElem_toArray, List.getElem_cons_succ, List.getElem_cons_zero]
              go_simp
              try with_reducible rfl
            simp only [List.getElem_toArray, List.getElem_cons_succ, List.getElem_cons_zero, Act.put, List.setIfInBounds_toArray, List.set_cons_zero, List.set_cons_succ]
            refine wpAnyH_take (i := 2) (v := ?_) rfl (by kernel_rfl) (by kernel_rfl) (by kernel_rfl) (fun _ _ _ h => h) (Or.inl ⟨by rfl, ?_⟩) (by assumption) ?_
            rotate_left
            · intro w hSw
              try dsimp only at hSw
              simp only [List.getElem_toArray, List.getElem_cons_succ, List.getElem_cons_zero]
              go_simp
              try with_reducible rfl
            simp only [List.getElem_toArray, List.getElem_cons_succ, List.getElem_cons_zero, Act.put, List.setIfInBounds_toArray, List.set_cons_zero, List.set_cons_succ]
            refine wpAnyH_take (i := 3) (v := ?_) rfl (by kernel_rfl) (by kernel_rfl) (by kernel_rfl) (fun _ _ _ h => h) (Or.inl ⟨by rfl, ?_⟩) (by assumption) ?_
            rotate_left
            · intro w hSw
              try dsimp only at hSw
              simp only [List.getElem_toArray, List.getElem_cons_succ, List.getElem_cons_zero]
              go_simp
              try with_reducible rfl
            simp only [List.getElem_toArray, List.getElem_cons_succ, List.getElem_cons_zero, Act.put, List.setIfInBounds_toArray, List.set_cons_zero, List.set_cons_succ]
            refine wpAnyH_take (i := 4) (v := ?_) rfl (by kernel_rfl) (by kernel_rfl) (by kernel_rfl) (fun _ _ _ h => h) (Or.inl ⟨by rfl, ?_⟩) (by assumption) ?_
            rotate_left
            · intro w hSw
              try dsimp only at hSw
              simp only [List.getElem_toArray, List.getElem_cons_succ, List.getElem_cons_zero]
              go_simp
              try with_reducible rfl
            simp only [List.getElem_toArray, List.getElem_cons_succ, List.getElem_cons_zero, Act.put, List.setIfInBounds_toArray, List.set_cons_zero, List.set_cons_succ]
            refine wpAnyH_take (i := 5) (v := ?_) rfl (by kernel_rfl) (by kernel_rfl) (by kernel_rfl) (fun _ _ _ h => h) (Or.inl ⟨by rfl, ?_⟩) (by assumption) ?_
            rotate_left
            · intro w hSw
              try dsimp only at hSw
              simp only [List.getElem_toArray, List.getElem_cons_succ, List.getElem_cons_zero]
              go_simp
              try with_reducible rfl
            simp only [List.getElem_toArray, List.getElem_cons_succ, List.getElem_cons_zero, Act.put, List.setIfInBounds_toArray, List.set_cons_zero, List.set_cons_succ]
            refine wpAnyH_take (i := 6) (v := ?_) rfl (by kernel_rfl) (by kernel_rfl) (by kernel_rfl) (fun _ _ _ h => h) (Or.inl ⟨by rfl, ?_⟩) (by assumption) ?_
            rotate_left
            · intro w hSw
              try dsimp only at hSw
              simp only [List.getElem_toArray, List.getElem_cons_succ, List.getElem_cons_zero]
              go_simp
              try with_reducible rfl
            simp only [List.getElem_toArray, List.getElem_cons_succ, List.getElem_cons_zero, Act.put, List.setIfInBounds_toArray, List.set_cons_zero, List.set_cons_succ]
            refine wpAnyH_take (i := 7) (v := _) rfl (by kernel_rfl) (by kernel_rfl) (by kernel_rfl) (fun _ _ _ h => h) (yieldsIf_load_mid (by rfl) _ _ rfl _ _ rfl _ _ (fun w hSw => hSw.1) Try.underlying44 rfl HROW2.out.1) (by assumption) ?_
            simp only [List.getElem_toArray, List.getElem_cons_succ, List.getElem_cons_zero, Act.put, List.setIfInBounds_toArray, List.set_cons_zero, List.set_cons_succ]
            refine wpAnyH_take (i := 8) (v := _) rfl (by kernel_rfl) (by kernel_rfl) (by kernel_rfl) (fun _ _ _ h => h) (yieldsIf_load_mid (by rfl) _ _ rfl _ _ rfl _ _ (fun w hSw => hSw.2.1) Try.underlying44 rfl HROW2.out.1) (by assumption) ?_
            simp only [List.getElem_toArray, List.getElem_cons_succ, List.getElem_cons_zero, Act.put, List.setIfInBounds_toArray, List.set_cons_zero, List.set_cons_succ]
            refine wpAnyH_take (i := 9) (v := ?_) rfl (by kernel_rfl) (by kernel_rfl) (by kernel_rfl) (fun _ _ _ h => h) (Or.inl ⟨by rfl, ?_⟩) (by assumption) ?_
            rotate_left
            · intro w hSw
              try dsimp only at hSw
              simp only [List.getElem_toArray, List.getElem_cons_succ, List.getElem_cons_zero]
              go_simp
              try with_reducible rfl
            simp only [List.getElem_toArray, List.getElem_cons_succ, List.getElem_cons_zero, Act.put, List.setIfInBounds_toArray, List.set_cons_zero, List.set_cons_succ]
            refine wpAnyH_take (i := 10) (v := ?_) rfl (by kernel_rfl) (by kernel_rfl) (by kernel_rfl) (fun _ _ _ h => h) (Or.inl ⟨by rfl, ?_⟩) (by assumption) ?_
            rotate_left
            · intro w hSw
              try dsimp only at hSw
              simp only [List.getElem_toArray, List.getElem_cons_succ, List.getElem_cons_zero]
              go_simp
              try with_reducible rfl
            simp only [List.getElem_toArray, List.getElem_cons_succ, List.getElem_cons_zero, Act.put, List.setIfInBounds_toArray, List.set_cons_zero, List.set_cons_succ]
            refine wpAnyH_take (i := 11) (v := ?_) rfl (by kernel_rfl) (by kernel_rfl) (by kernel_rfl) (fun _ _ _ h => h) (Or.inl ⟨by rfl, ?_⟩) (by assumption) ?_
            rotate_left
            · intro w hSw
              try dsimp only at hSw
              simp only [List.getElem_toArray, List.getElem_cons_succ, List.getElem_cons_zero]
              go_simp
              try with_reducible rfl
            simp only [List.getElem_toArray, List.getElem_cons_succ, List.getElem_cons_zero, Act.put, List.setIfInBounds_toArray, List.set_cons_zero, List.set_cons_succ]
            refine wpAnyH_take (i := 12) (v := ?_) rfl (by kernel_rfl) (by kernel_rfl) (by kernel_rfl) (fun _ _ _ h => h) (Or.inl ⟨by rfl, ?_⟩) (by assumption) ?_
            rotate_left
            · intro w hSw
              try dsimp only at hSw
              simp only [List.getElem_toArray, List.getElem_cons_succ, List.getElem_cons_zero]
              go_simp
              try with_reducible rfl
            simp only [List.getElem_toArray, List.getElem_cons_succ, List.getElem_cons_zero, Act.put, List.setIfInBounds_toArray, List.set_cons_zero, List.set_cons_succ]
            refine wpAnyH_take (i := 14) (v := ?_) rfl (by kernel_rfl) (by kernel_rfl) (by kernel_rfl) (fun _ _ _ h => h) (Or.inl ⟨by rfl, ?_⟩) (by assumption) ?_
            rotate_left
            · intro w hSw
              try dsimp only at hSw
              simp only [List.getElem_toArray, List.getElem_cons_succ, List.getElem_cons_zero]
              go_simp
              try with_reducible rfl
            simp only [List.getElem_toArray, List.getElem_cons_succ, List.getElem_cons_zero, Act.put, List.setIfInBounds_toArray, List.set_cons_zero, List.set_cons_succ]
            refine wpAnyH_take (i := 15) (v := ?_) rfl (by kernel_rfl) (by kernel_rfl) (by kernel_rfl) (fun _ _ _ h => h) (Or.inl ⟨by rfl, ?_⟩) (by assumption) ?_
            rotate_left
            · intro w hSw
              try dsimp only at hSw
              simp only [List.getElem_toArray, List.getElem_cons_succ, List.getElem_cons_zero]
              go_simp
              try with_reducible rfl
            simp only [List.getElem_toArray, List.getElem_cons_succ, List.getElem_cons_zero, Act.put, List.setIfInBounds_toArray, List.set_cons_zero, List.set_cons_succ]
            refine wpAnyH_ready (rs := [13]) (by kernel_rfl) (by simp) ?_
            refine AllReadyH.cons rfl (fun K hK => ?_) AllReadyH.nil
            try simp only [List.getElem_toArray, List.getElem_cons_succ, List.getElem_cons_zero]
            go_simp
            go_at_call 23
            refine (HLEN.out _ (Only.refl _ _).drew).mono ?_
            rintro e w15 ⟨rfl, rfl⟩
            refine hK.out _ _ (by exact kf) (fun hHeld => ?_)
            clear hK K
            try simp only [List.getElem_toArray, List.getElem_cons_succ, List.getElem_cons_zero, Act.put, List.setIfInBounds_toArray, List.set_cons_zero, List.set_cons_succ]
            refine wpAnyH_take (i := 16) (v := ?_) rfl (by kernel_rfl) (by kernel_rfl) (by kernel_rfl) (fun _ _ _ h => h) (Or.inl ⟨by rfl, ?_⟩) (by assumption) ?_
            rotate_left
            · intro w hSw
              try dsimp only at hSw
              simp only [List.getElem_toArray, List.getElem_cons_succ, List.getElem_cons_zero]
              go_simp
              try with_reducible rfl
            simp only [List.getElem_toArray, List.getElem_cons_succ, List.getElem_cons_zero, Act.put, List.setIfInBounds_toArray, List.set_cons_zero, List.set_cons_succ]
            refine wpAnyH_take (i := 17) (v := ?_) rfl (by kernel_rfl) (by kernel_rfl) (by kernel_rfl) (fun _ _ _ h => h) (Or.inl ⟨by rfl, ?_⟩) (by assumption) ?_
            rotate_left
            · intro w hSw
              try dsimp only at hSw
              simp only [List.getElem_toArray, List.getElem_cons_succ, List.getElem_cons_zero]
              go_simp
              try with_reducible rfl
            simp only [List.getElem_toArray, List.getElem_cons_succ, List.getElem_cons_zero, Act.put, List.setIfInBounds_toArray, List.set_cons_zero, List.set_cons_succ]
            refine wpAnyH_done (by kernel_rfl) ?_ _
            have hO15 : Only (fun _ => False) w14 w14.drew := (Only.refl _ _).drew
            obtain ⟨w15, hw15⟩ : ∃ w15, w15 = w14.drew := ⟨_, rfl⟩
            rw [← hw15] at hO15 ⊢
            have hcu : w15.cell? ⟨up, 0, none⟩ = some (.slice UA ln uc) := by rw [hw15]; exact hcu
            have HC15 := Lib.hid (HC14.out.only hO15 id)
            have HX15 := Lib.hid (HX14.out.only hO15 id)
            have HM15 : Hid (MW w15 m g f') := HM14.out.only hO15 id id
            have HR15 := Lib.hid (rm_only HR14.out hO15 id id)
            have HT15 := Lib.hid (HT14.out.keep hO15 (fun _ _ => id))
            have HU15 := Lib.hid (HU14.out.keep hO15 (fun _ _ => id))
            have HB15 : Hid (Below w.heap.size w w15) := HB14.out.trans (hO15.below HB14.out.size (fun _ h => h.elim))
            rw [← HLN.out] at B2
            have HAT := Lib.hid (fun (j : Nat) (hj : j < (L ++ evs).length) (wq : World) (hq : Only (fun _ => False) w15 wq) => Tr.at_ (own_only B2.out (hO15.trans hq (fun _ _ h => h)) (fun _ _ => id)) hj)
            have HUL := Lib.hid (HU15.out.lt up (.inl rfl))
            clear hO15 hw15 kf hHeld HS HLEN B2 heq HROW2 HC14 HX14 HM14 HR14 HT14 HU14 HB14
            go_upto_if 124 with (fail)
            go_cut [] (fun wx => Only (fun _ => False) w15 wx)
            case first =>
              by_cases h0 : (0 : Int) < ln
              · obtain ⟨j, rfl⟩ : ∃ j, ln = j + 1 := ⟨ln - 1, by omega⟩
                have hj : j < (L ++ evs).length := by rw [HLN.out]; omega
                have HA := Lib.hid (HAT.out j hj)
                have HTA := Lib.hid (trAt_c w15 tp t3 (L ++ evs) HT15.out j hj)
                rw [HLN.out] at HA
                obtain ⟨ev, hev2⟩ : ∃ ev, (L ++ evs)[j]'hj = ev := ⟨_, rfl⟩
                rw [hev2] at HA HTA
                obtain ⟨v1, v2, v3, v4⟩ := ev
                dsimp only [Ev.val] at HA HTA
                obtain ⟨gg, uc2, e, _⟩ := HA.out w15 (Only.refl _ _)
                injection e with e _ _
                subst e
                have HCE : Hid (∀ wq, Only (fun _ => False) w15 wq → wq.cell? ⟨gg, j * 4, none⟩ = some (.int .i64 v1) ∧ wq.cell? ⟨gg, j * 4 + 1, none⟩ = some (.int .i64 v2) ∧ wq.cell? ⟨gg, j * 4 + 2, none⟩ = some (.int .i64 v3) ∧ wq.cell? ⟨gg, j * 4 + 3, none⟩ = some (.int .i64 v4)) := fun wq hq => by
                  obtain ⟨g2, c2, e, h1, h2, h3, h4⟩ := HA.out wq hq
                  injection e with e _ _
                  injection e with e
                  injection e with e
                  subst e
                  exact ⟨h1, h2, h3, h4⟩
                have e1 : ((j + 1 : Nat) : Int) - 1 = j := by omega
                clear hev2 HA HAT
                go_wp2_with fail
                refine (HTA.out).mono ?_
                rintro e w16 ⟨rfl, hb16⟩
                have hO16 : Only (fun _ => False) w15 w16 := Only.of_below hb16
                clear hb16
                go_upto_region 29 with (fail)
                have KE := Blk.new w16 51 #[.int .i64 v1, .int .i64 v2, .int .i64 v3, .int .i64 v4]
                have hO17 := hO16.trans ((Only.refl (fun _ => False) w16).alloc (.cells #[.int .i64 v1, .int .i64 v2, .int .i64 v3, .int .i64 v4] 51)) (fun _ _ h => h)
                obtain ⟨w17, hw17⟩ : ∃ w17, w17 = w16.alloc (.cells #[.int .i64 v1, .int .i64 v2, .int .i64 v3, .int .i64 v4] 51) := ⟨_, rfl⟩
                rw [← hw17] at KE hO17 ⊢
                obtain ⟨ep, hep⟩ : ∃ ep, ep = w16.heap.size := ⟨_, rfl⟩
                rw [← hep] at KE ⊢
                clear hw17 hep
                have k0 := KE.cell 0
                have k1 := KE.cell 1
                have k2 := KE.cell 2
                have k3 := KE.cell 3
                simp at k0 k1 k2 k3
                obtain ⟨y0, y1, y2, y3⟩ := HCE.out w17 hO17
                have hcu : w17.cell? ⟨up, 0, none⟩ = some (.slice (some ⟨gg, 0, none⟩) (j + 1) uc) := by rw [hO17.cell (p := ⟨up, 0, none⟩) HUL.out id]; exact hcu
                have heq := eq_ev v1 v2 v3 v4
                have HO17 := Lib.hid hO17
                clear hO16 hO17 KE HCE
                go_wp2_with fail
                go_quiet (fail)
                have hO18 := HO17.out.trans ((Only.refl (fun _ => False) w17).drewN nq) (fun _ _ h => h)
                obtain ⟨w18, hw18⟩ : ∃ w18, w18 = w17.drewN nq := ⟨_, rfl⟩
                have y2 : w18.cell? ⟨gg, j * 4 + 2, none⟩ = some (.int .i64 v3) := by rw [hw18]; exact y2
                have hcu : w18.cell? ⟨up, 0, none⟩ = some (.slice (some ⟨gg, 0, none⟩) (j + 1) uc) := by rw [hw18]; exact hcu
                rw [← hw18] at hO18 ⊢
                have HO18 := Lib.hid hO18
                clear hw18 hO18 y0 y1 y3 k0 k1 k2 k3 heq HO17
                by_cases h3 : (0 : Int) ≤ v3
                · go_wp2_with fail
                  go_loopw [23] (fun i wx => ∃ r : Nat, r ≤ 10 ∧ i = .int .i64 ((4 * r : Nat) : Int) ∧ Only (fun _ => False) w15 wx) (fun i _ => 40 - (intOf i).toNat)
                  case atStart => exact ⟨0, by omega, rfl, HO18.out⟩
                  case round =>
                    obtain ⟨r, hr10, rfl, ho⟩ := hrel
                    by_cases hr : ((4 * r : Nat) : Int) < 40
                    · have HMr : Hid (MW wr m g f') := HM15.out.only ho id id
                      have HO := Lib.hid ho
                      clear ho
                      go_wp2_with fail
                      refine (word_c wr m g f' _ HMr.out).mono ?_
                      rintro e w19 ⟨rfl, rfl⟩
                      go_wp2_with fail
                      refine (rword_c wr rm rg f' _ (rm_only HR15.out HO.out id id)).mono ?_
                      rintro e w19 ⟨rfl, qq, rfl⟩
                      have HO2 := Lib.hid (HO.out.trans ((Only.refl (fun _ => False) wr).drewN qq) (fun _ _ h => h))
                      go_wp2_with fail
                      exact ⟨⟨r + 1, by omega, by go_num, HO2.out⟩, by simp [intOf]; omega⟩
                    · go_wp2_with fail
                      go_meet
                      exact ho
                · go_wp2_with fail
                  go_meet
                  exact HO18.out
              · go_wp2_with fail
                go_meet
                exact Only.refl _ _
            case rest =>
              have hO19 : Only (fun _ => False) w15 wc := hcut
              have HC19 := Lib.hid (HC15.out.only hO19 id)
              have HX19 := Lib.hid (HX15.out.only hO19 id)
              have HM19 : Hid (MW wc m g f') := HM15.out.only hO19 id id
              have HR19 := Lib.hid (rm_only HR15.out hO19 id id)
              have HT19 := Lib.hid (HT15.out.keep hO19 (fun _ _ => id))
              have HU19 := Lib.hid (HU15.out.keep hO19 (fun _ _ => id))
              have HB19 : Hid (Below w.heap.size w wc) := HB15.out.trans (hO19.below HB15.out.size (fun _ h => h.elim))
              have HL2 := Lib.hid hL2
              have HLE : Hid ((L ++ evs).length ≤ k + 1) := by show _ ≤ _; rw [HLN.out]; exact hL2
              have z0 := HC19.out.1.frozen 20
              have z1 := HX19.out.1.frozen 20
              have z2 := HC19.out.rest.2.2.2.2.1
              have z3 := HX19.out.rest.2.2.2.2.1
              rw [HST2.out] at z2 z3
              clear hO19 hcut HC15 HX15 HM15 HR15 HT15 HU15 HB15 HAT hcu
              by_cases h1 : s' = 1
              · subst h1
                have hC := HC19.out.setSt 0
                have hO1 := Only.setCell (p := ⟨pc, 20, none⟩) (Only.refl (fun j => j = pc) wc) (.inl rfl) (.int .i64 0)
                have hX := (HX19.out.only hO1 (fun h => by have h' : xp = pc := h; have := HXP.out.1; omega)).setSt 0
                have hO2 := Only.setCell (p := ⟨xp, 20, none⟩) (Only.refl (fun j => j = xp) (wc.setCell ⟨pc, 20, none⟩ (.int .i64 0))) (.inl rfl) (.int .i64 0)
                have hC2 := hC.only hO2 (fun h => by have h' : pc = xp := h; have := HXP.out.1; omega)
                have hO3 : Only (fun j => j = pc ∨ j = xp) wc ((wc.setCell ⟨pc, 20, none⟩ (.int .i64 0)).setCell ⟨xp, 20, none⟩ (.int .i64 0)) := (hO1.mono (fun _ _ h => .inl h)).trans hO2 (fun _ _ h => .inr h)
                have HQE : Hid (SQ w.heap.size w m g pc tp rm rg xp up (k + 1) ((wc.setCell ⟨pc, 20, none⟩ (.int .i64 0)).setCell ⟨xp, 20, none⟩ (.int .i64 0)) { c' with st := 0 } f' t3 ug' (L ++ evs)) := by
                  refine ⟨hC2, hX, HM19.out.only hO3 (fun h => ?_) (fun h => ?_), rm_only HR19.out hO3 (fun h => ?_) (fun h => ?_), HT19.out.keep hO3 (fun j hj h => ?_), HU19.out.keep hO3 (fun j hj h => ?_), HLE.out, HAP13.out, fun j hj => ?_, HB19.out.trans (hO3.below HB19.out.size (fun j h => ?_))⟩
                  · rcases h with h | h
                    · exact HM19.out.1.ne HC19.out.1 (by decide) h
                    · exact HM19.out.1.ne HX19.out.1 (by decide) h
                  · obtain ⟨_, cs, h5, _⟩ := HM19.out
                    rcases h with h | h
                    · exact h5.ne HC19.out.1 (by decide) h
                    · exact h5.ne HX19.out.1 (by decide) h
                  · rcases h with h | h
                    · exact HR19.out.1.ne HC19.out.1 (by decide) h
                    · exact HR19.out.1.ne HX19.out.1 (by decide) h
                  · obtain ⟨_, cs, h5, _⟩ := HR19.out
                    rcases h with h | h
                    · exact h5.ne HC19.out.1 (by decide) h
                    · exact h5.ne HX19.out.1 (by decide) h
                  · rcases h with h | h
                    · subst h; exact HT19.out.far HC19.out.1 (by decide) (by decide) hj
                    · subst h; exact HT19.out.far HX19.out.1 (by decide) (by decide) hj
                  · rcases h with h | h
                    · subst h; exact us_far HU19.out HC19.out.1 (by decide) (by decide) hj
                    · subst h; exact us_far HU19.out HX19.out.1 (by decide) (by decide) hj
                  · rcases hj with hj | hj
                    · exact HLO12.out j hj
                    · exact HLU13.out j hj
                  · rcases h with h | h
                    · have := HPC.out; omega
                    · have := HXP.out.2.2.2.2; omega
                have z3' : (wc.setCell ⟨pc, 20, none⟩ (.int .i64 0)).cell? ⟨xp, 20, none⟩ = some (.int .i64 1) := by
                  have := (HX19.out.only hO1 (fun h => by have h' : xp = pc := h; have := HXP.out.1; omega)).rest.2.2.2.2.1
                  rw [HST2.out] at this; exact this
                have z1' : (wc.setCell ⟨pc, 20, none⟩ (.int .i64 0)).frozen? ⟨xp, 20, none⟩ = false := (HX19.out.only hO1 (fun h => by have h' : xp = pc := h; have := HXP.out.1; omega)).1.frozen 20
                clear hC hO1 hX hO2 hC2 hO3
                go_wp2_with fail
                exact ⟨⟨k + 1, _, _, _, _, _, by omega, by go_num, HQE.out⟩, by simp [intOf]; omega⟩
              · have HQE : Hid (SQ w.heap.size w m g pc tp rm rg xp up (k + 1) wc c' f' t3 ug' (L ++ evs)) := ⟨HC19.out, HX19.out, HM19.out, HR19.out, HT19.out, HU19.out, HLE.out, HAP13.out, fun j hj => by
                  rcases hj with hj | hj
                  · exact HLO12.out j hj
                  · exact HLU13.out j hj, HB19.out⟩
                go_wp2_with fail
                exact ⟨⟨k + 1, _, _, _, _, _, by omega, by go_num, HQE.out⟩, by simp [intOf]; omega⟩
          · go_wp2_with fail
            go_ret
            exact ⟨rfl, HQ.out.b⟩

end Go.Proofs.Ytpihjhfaeloapaa
