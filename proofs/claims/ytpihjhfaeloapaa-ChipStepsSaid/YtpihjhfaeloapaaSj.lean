/- The document's Step does the step: its arms together, and a chip that does not go. -/
import Derived.Test.YtpihjhfaeloapaaVn
import Derived.Test.YtpihjhfaeloapaaSg
import Derived.Test.YtpihjhfaeloapaaSi
import Derived.Test.YtpihjhfaeloapaaVo
import Derived.Test.YtpihjhfaeloapaaSm
import Derived.Test.YtpihjhfaeloapaaSp
import Derived.Test.YtpihjhfaeloapaaSq
import Derived.Test.YtpihjhfaeloapaaVr
import Derived.Test.YtpihjhfaeloapaaVp
namespace Go.Proofs.Ytpihjhfaeloapaa
open Go.RowKit On Th
set_option maxHeartbeats 4000000 in
set_option maxRecDepth 100000 in
/-- no other operation -/
theorem rarm_none (op : Int) (h : ¬ (1 ≤ op ∧ op ≤ 45)) : rsw.1 op := by
  delta rsw
  dsimp only
  intro _ _ _ _ _ _ _ _ _ _ _ _ _ _ _ _ _ _ _ _ _ _ _ _ _ _ _ _ _ _ _ _ _ _ _ _ _ _ _ _ _ _ _ _ _ _ _ _ _ _ _ _ _ _ _ _ _ HIR _ _ _ _ _ _ _ _ _ _ _ _ _ _ _ _ _ _ _ _ _ _ _ _ _ _ _ _
  exact absurd ⟨HIR.out.1.op0, HIR.out.1.op1⟩ h
theorem rarm (op : Int) : rsw.1 op := by
  by_cases h : 1 ≤ op ∧ op ≤ 45
  · have hc : op = 1 ∨ op = 2 ∨ op = 3 ∨ op = 4 ∨ op = 5 ∨ op = 6 ∨ op = 7 ∨ op = 8 ∨ op = 9 ∨ op = 10 ∨ op = 11 ∨ op = 12 ∨ op = 13 ∨ op = 14 ∨ op = 15 ∨ op = 16 ∨ op = 17 ∨ op = 18 ∨ op = 19 ∨ op = 20 ∨ op = 21 ∨ op = 22 ∨ op = 23 ∨ op = 24 ∨ op = 25 ∨ op = 26 ∨ op = 27 ∨ op = 28 ∨ op = 29 ∨ op = 30 ∨ op = 31 ∨ op = 32 ∨ op = 33 ∨ op = 34 ∨ op = 35 ∨ op = 36 ∨ op = 37 ∨ op = 38 ∨ op = 39 ∨ op = 40 ∨ op = 41 ∨ op = 42 ∨ op = 43 ∨ op = 44 ∨ op = 45 := by omega
    rcases hc with rfl | rfl | rfl | rfl | rfl | rfl | rfl | rfl | rfl | rfl | rfl | rfl | rfl | rfl | rfl | rfl | rfl | rfl | rfl | rfl | rfl | rfl | rfl | rfl | rfl | rfl | rfl | rfl | rfl | rfl | rfl | rfl | rfl | rfl | rfl | rfl | rfl | rfl | rfl | rfl | rfl | rfl | rfl | rfl | rfl
    · exact rarm_1
    · exact rarm_2
    · exact rarm_3
    · exact rarm_4
    · exact rarm_5
    · exact rarm_6
    · exact rarm_7
    · exact rarm_8
    · exact rarm_9
    · exact rarm_10
    · exact rarm_11
    · exact rarm_12
    · exact rarm_13
    · exact rarm_14
    · exact rarm_15
    · exact rarm_16
    · exact rarm_17
    · exact rarm_18
    · exact rarm_19
    · exact rarm_20
    · exact rarm_21
    · exact rarm_22
    · exact rarm_23
    · exact rarm_24
    · exact rarm_25
    · exact rarm_26
    · exact rarm_27
    · exact rarm_28
    · exact rarm_29
    · exact rarm_30
    · exact rarm_31
    · exact rarm_32
    · exact rarm_33
    · exact rarm_34
    · exact rarm_35
    · exact rarm_36
    · exact rarm_37
    · exact rarm_38
    · exact rarm_39
    · exact rarm_40
    · exact rarm_41
    · exact rarm_42
    · exact rarm_43
    · exact rarm_44
    · exact rarm_45
  · exact rarm_none op h
set_option maxHeartbeats 8000000 in
set_option maxRecDepth 100000 in
/-- a chip that does not go -/
theorem rstep_stop (w : World) (c : Ch) (rm rg up : Nat) (f : Nat → Int) (mp : Value) (ug : Option Nat) (L : List Ev) (hok : c.ok) (hm : Mm w 78 rm rg f) (hu : Us w up ug L) (hst : c.st ≠ 0) :
    Calls Try.prog 22 #[.agg c.cells.toArray, .pointer (some ⟨rm, 0, none⟩), .pointer (some ⟨up, 0, none⟩)] w fun e w' => RStepP mp rm rg up ug c f L w e w' := by
  have hS : stepS mp c f = (c, f, []) := by unfold stepS; rw [if_neg hst]
  obtain ⟨wa, hwa⟩ : ∃ wa, wa = (w.alloc (.cells c.cells.toArray 44)).alloc (.cells #[.int .u32 0, .int .u32 0, .int .u32 0, .int .u32 0, .int .u32 0, .int .u32 0, .int .u32 0, .int .u32 0, .int .u32 0, .int .u32 0, .int .u32 0, .int .u32 0, .int .u32 0, .int .u32 0, .int .u32 0, .int .u32 0, .bool false, .bool false, .bool false, .bool false, .int .i64 0, .int .i64 0, .int .i64 0] 44) := ⟨_, rfl⟩
  have hO : Only (fun _ => False) w wa := by rw [hwa]; exact ((Only.refl (fun _ => False) w).alloc _).alloc _
  have HO := Lib.hid hO
  have HM := Lib.hid (rm_only hm hO id id)
  have HU := Lib.hid (hu.keep hO (fun _ _ => id))
  have HUL := Lib.hid (fun k hk => hu.lt k hk)
  have HRS : Hid (Blk wa (w.heap.size + 1) 44 #[.int .u32 0, .int .u32 0, .int .u32 0, .int .u32 0, .int .u32 0, .int .u32 0, .int .u32 0, .int .u32 0, .int .u32 0, .int .u32 0, .int .u32 0, .int .u32 0, .int .u32 0, .int .u32 0, .int .u32 0, .int .u32 0, .bool false, .bool false, .bool false, .bool false, .int .i64 0, .int .i64 0, .int .i64 0]) := by rw [hwa]; exact Blk.new' _ _ _ _ (by show w.heap.size + 1 = (w.heap.push _).size; rw [Array.size_push])
  have HCP : Hid (ChW wa w.heap.size c) := by rw [hwa]; exact ⟨(Blk.new w _ _).alloc _, hok⟩
  have HML := Lib.hid hm.1.lt
  have HGL : Hid (rg < w.heap.size) := by obtain ⟨_, cs, h, _⟩ := hm; exact h.lt
  have HS := Lib.hid hS
  clear hO hm hu hS hok
  go_enter Try.func22, Try.ntmps22
  go_upto_region 1 with (fail)
  rw [← hwa]
  clear hwa
  have q20 := HCP.out.rest.2.2.2.2.1
  have HROW := Lib.hid (chip_row HCP.out.2)
  have HRG : Hid (wa.rangeAt w.heap.size 0 c.cells) := fun j v hv => by
    rw [Nat.zero_add, HCP.out.1.cell, List.getElem?_toArray]; exact hv
  obtain ⟨AG, hAG⟩ : ∃ AG : List Value, AG = c.cells := ⟨_, rfl⟩
  rw [← hAG] at HROW HRG
  have HAG := Lib.hid hAG
  clear hAG HCP
  generalize c.st = s at *
  go_wp2_with (first | refine wpList_load_mid rfl 44 _ rfl w.heap.size 0 rfl AG _ HRG.out Try.underlying44 rfl HROW.out.1 ?_ | refine wpList_store_row rfl 44 _ _ rfl (w.heap.size + 1) AG.toArray rfl rfl 44 #[.int .u32 0, .int .u32 0, .int .u32 0, .int .u32 0, .int .u32 0, .int .u32 0, .int .u32 0, .int .u32 0, .int .u32 0, .int .u32 0, .int .u32 0, .int .u32 0, .int .u32 0, .int .u32 0, .int .u32 0, .int .u32 0, .bool false, .bool false, .bool false, .bool false, .int .i64 0, .int .i64 0, .int .i64 0] HRS.out HROW.out.2.1 HROW.out.2.2.1 HROW.out.2.2.2 ?_)
  have HRZ : Blk (wa.setRow (w.heap.size + 1) AG.toArray) (w.heap.size + 1) 44 AG.toArray := setRow_heap _ _ _ _ _ _ HRS.out
  have HOZ := setRow_only wa (w.heap.size + 1) AG.toArray
  obtain ⟨wZ2, hwZ2⟩ : ∃ wZ2, wZ2 = wa.setRow (w.heap.size + 1) AG.toArray := ⟨_, rfl⟩
  rw [← hwZ2] at HRZ HOZ ⊢
  refine bodyPost_ret (results_cell_row rfl _ _ (w.heap.size + 1) 44 AG.toArray (0, 0) _ (by rfl) HRZ Try.underlying44 rfl HROW.out.2.1) rfl ?_
  unfold RStepP
  rw [HS.out]
  dsimp only
  refine ⟨by rw [HAG.out], rm_only HM.out HOZ (by have := HML.out; omega) (by have := HGL.out; omega), ug, ?_, .inl rfl, HO.out.trans HOZ (by intro i hi e; omega) |>.mono (fun _ _ h => h.elim)⟩
  rw [List.append_nil]
  exact HU.out.keep HOZ (by intro k hk e; have := HUL.out k hk; omega)
theorem rstep_c : RStepC := fun w c rm rg up f mp ug L hok hm hu hL => by
  by_cases hst : c.st = 0
  · refine rsw.2 rarm w c rm rg up f mp ug L hok hm hu hL hst (fun s hs w2 h => (refDecode_c h).mono ?_)
    rintro e w' ⟨i, k, ⟨he, hb⟩, hk⟩
    exact ⟨i, k, he, hb, hk⟩
  · exact rstep_stop w c rm rg up f mp ug L hok hm hu hst
theorem chipSteps_top (v0 v1 v2 v3 : Value) (w : World) (u0 : Vw.Arg Try.prog w 22 v0) (u1 : Vw.Arg Try.prog w 23 v1) (u2 : Vw.Arg Try.prog w 3 v2) (u3 : Vw.Arg Try.prog w 24 v3) :
    Calls Try.prog 3 #[v0, v1, v2, v3] w fun e w' => e = .returned (.bool true) ∧ Below w.heap.size w w' := by
  obtain ⟨A, n, c, rfl, _, _, _, hr⟩ := u0.rows Try.underlying22 cells_raw (by omega)
  obtain ⟨A1, n1, c1, rfl, hn1, hw1⟩ := arg_words u1
  obtain ⟨how, rfl, _⟩ := u2.int Try.underlying3
  obtain ⟨A2, c2, ods, rfl, ho, hoc, hor⟩ := arg_odd u3
  exact chipSteps_c rstep_c w A A1 A2 n c n1 c1 c2 how ods hr hw1 hn1 ho hoc hor
end Go.Proofs.Ytpihjhfaeloapaa
