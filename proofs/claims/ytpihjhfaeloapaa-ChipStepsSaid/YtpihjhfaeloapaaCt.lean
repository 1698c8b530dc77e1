/- MERGED by mergech.py: XCh XCs XCt. -/
import Derived.Test.YtpihjhfaeloapaaVb
import Derived.Test.YtpihjhfaeloapaaVj
import Derived.BigRegion
import Derived.Laws.BitsAllLaws
import Derived.Deep.DeepCutAuto
import Derived.Laws.Shifts
namespace Go.Proofs.Ytpihjhfaeloapaa
open Go.RowKit On Th
/-- a chip -/
structure Ch where
  (R : List Int)
  (nf zf cf vf : Bool)
  (st num cyc : Int)
def Ch.cells (c : Ch) : List Value := c.R.map (Value.int .u32) ++ [.bool c.nf, .bool c.zf, .bool c.cf, .bool c.vf, .int .i64 c.st, .int .i64 c.num, .int .i64 c.cyc]
/-- a word -/
def U (x : Int) : Prop := 0 ≤ x ∧ x < 4294967296
structure Ch.ok (c : Ch) : Prop where
  len : c.R.length = 16
  u : ∀ x ∈ c.R, U x
/-- a chip as it would be behind a step -/
structure Sp where
  (c : Ch)
  (m : Value)
  (i : Ins)
  (at_ touch cost : Int)
  (fault : Bool)
def Sp.cells (s : Sp) : List Value := s.c.cells ++ [s.m, .int .i64 s.i.op, .int .i64 s.i.d, .int .i64 s.i.n, .int .i64 s.i.m, .int .i64 s.i.imm, .int .i64 s.i.cond, .int .u32 s.at_, .int .i64 s.touch, .int .i64 s.cost, .bool s.fault]
theorem Ch.ok.reg {c : Ch} (h : c.ok) {k : Nat} (hk : k < 16) : U (c.R.getD k 0) := by
  rw [List.getD_eq_getElem?_getD, List.getElem?_eq_getElem (by rw [h.len]; exact hk)]
  exact h.u _ (List.getElem_mem _)
theorem Ch.ok.set {c : Ch} (h : c.ok) (k : Nat) {x : Int} (hx : U x) : ({ c with R := c.R.set k x } : Ch).ok :=
  ⟨by rw [List.length_set]; exact h.len, fun y hy => by
    rcases List.mem_or_eq_of_mem_set hy with hy | rfl
    · exact h.u y hy
    · exact hx⟩
theorem Ch.cells_len {c : Ch} (h : c.ok) : c.cells.length = 23 := by simp [Ch.cells, h.len]
theorem Ch.cell_reg {c : Ch} (h : c.ok) {k : Nat} (hk : k < 16) : c.cells[k]? = some (.int .u32 (c.R.getD k 0)) := by
  unfold Ch.cells
  rw [List.getElem?_append_left (by rw [List.length_map, h.len]; exact hk), List.getElem?_map, List.getD_eq_getElem?_getD, List.getElem?_eq_getElem (by rw [h.len]; exact hk)]
  rfl
theorem Ch.cell_rest {c : Ch} (h : c.ok) (k : Nat) : c.cells[16 + k]? = [Value.bool c.nf, .bool c.zf, .bool c.cf, .bool c.vf, .int .i64 c.st, .int .i64 c.num, .int .i64 c.cyc][k]? := by
  unfold Ch.cells
  rw [List.getElem?_append_right (by rw [List.length_map, h.len]; omega), List.length_map, h.len, Nat.add_sub_cancel_left]
theorem Ch.set_reg {c : Ch} (h : c.ok) {k : Nat} (hk : k < 16) (x : Int) : c.cells.set k (.int .u32 x) = ({ c with R := c.R.set k x } : Ch).cells := by
  unfold Ch.cells
  rw [List.set_append_left _ _ (by rw [List.length_map, h.len]; exact hk), List.map_set]
theorem Ch.set_nf {c : Ch} (h : c.ok) (b : Bool) : c.cells.set 16 (.bool b) = ({ c with nf := b } : Ch).cells := by
  unfold Ch.cells; rw [List.set_append_right _ _ (by rw [List.length_map, h.len]; omega), List.length_map, h.len]; rfl
theorem Ch.set_zf {c : Ch} (h : c.ok) (b : Bool) : c.cells.set 17 (.bool b) = ({ c with zf := b } : Ch).cells := by
  unfold Ch.cells; rw [List.set_append_right _ _ (by rw [List.length_map, h.len]; omega), List.length_map, h.len]; rfl
theorem Ch.set_cf {c : Ch} (h : c.ok) (b : Bool) : c.cells.set 18 (.bool b) = ({ c with cf := b } : Ch).cells := by
  unfold Ch.cells; rw [List.set_append_right _ _ (by rw [List.length_map, h.len]; omega), List.length_map, h.len]; rfl
theorem Ch.set_vf {c : Ch} (h : c.ok) (b : Bool) : c.cells.set 19 (.bool b) = ({ c with vf := b } : Ch).cells := by
  unfold Ch.cells; rw [List.set_append_right _ _ (by rw [List.length_map, h.len]; omega), List.length_map, h.len]; rfl
theorem Ch.set_st {c : Ch} (h : c.ok) (x : Int) : c.cells.set 20 (.int .i64 x) = ({ c with st := x } : Ch).cells := by
  unfold Ch.cells; rw [List.set_append_right _ _ (by rw [List.length_map, h.len]; omega), List.length_map, h.len]; rfl
theorem Ch.set_num {c : Ch} (h : c.ok) (x : Int) : c.cells.set 21 (.int .i64 x) = ({ c with num := x } : Ch).cells := by
  unfold Ch.cells; rw [List.set_append_right _ _ (by rw [List.length_map, h.len]; omega), List.length_map, h.len]; rfl
theorem Ch.set_cyc {c : Ch} (h : c.ok) (x : Int) : c.cells.set 22 (.int .i64 x) = ({ c with cyc := x } : Ch).cells := by
  unfold Ch.cells; rw [List.set_append_right _ _ (by rw [List.length_map, h.len]; omega), List.length_map, h.len]; rfl
/-- a chip in memory -/
def ChW (w : World) (p : Nat) (c : Ch) : Prop := Blk w p 44 c.cells.toArray ∧ c.ok
/-- a step in memory -/
def SpW (w : World) (p : Nat) (s : Sp) : Prop := Blk w p 89 s.cells.toArray ∧ s.c.ok
theorem Sp.cell_c {s : Sp} (h : s.c.ok) {k : Nat} (hk : k < 23) : s.cells[k]? = s.c.cells[k]? := by
  unfold Sp.cells; rw [List.getElem?_append_left (by rw [Ch.cells_len h]; exact hk)]
theorem Sp.cell_rest {s : Sp} (h : s.c.ok) (k : Nat) : s.cells[23 + k]? = [s.m, Value.int .i64 s.i.op, .int .i64 s.i.d, .int .i64 s.i.n, .int .i64 s.i.m, .int .i64 s.i.imm, .int .i64 s.i.cond, .int .u32 s.at_, .int .i64 s.touch, .int .i64 s.cost, .bool s.fault][k]? := by
  unfold Sp.cells
  rw [List.getElem?_append_right (by rw [Ch.cells_len h]; omega), Ch.cells_len h, Nat.add_sub_cancel_left]
theorem Sp.set_c {s : Sp} (h : s.c.ok) {k : Nat} (hk : k < 23) {v : Value} {c : Ch} (e : s.c.cells.set k v = c.cells) : s.cells.set k v = ({ s with c := c } : Sp).cells := by
  unfold Sp.cells; rw [List.set_append_left _ _ (by rw [Ch.cells_len h]; exact hk), e]
theorem Sp.set_touch {s : Sp} (h : s.c.ok) (x : Int) : s.cells.set 31 (.int .i64 x) = ({ s with touch := x } : Sp).cells := by
  unfold Sp.cells; rw [List.set_append_right _ _ (by rw [Ch.cells_len h]; omega), Ch.cells_len h]; rfl
theorem Sp.set_cost {s : Sp} (h : s.c.ok) (x : Int) : s.cells.set 32 (.int .i64 x) = ({ s with cost := x } : Sp).cells := by
  unfold Sp.cells; rw [List.set_append_right _ _ (by rw [Ch.cells_len h]; omega), Ch.cells_len h]; rfl
theorem Sp.set_fault {s : Sp} (h : s.c.ok) (b : Bool) : s.cells.set 33 (.bool b) = ({ s with fault := b } : Sp).cells := by
  unfold Sp.cells; rw [List.set_append_right _ _ (by rw [Ch.cells_len h]; omega), Ch.cells_len h]; rfl
theorem SpW.lt {w : World} {p : Nat} {s : Sp} (h : SpW w p s) : p < w.heap.size := h.1.lt
theorem SpW.frozen {w : World} {p : Nat} {s : Sp} (h : SpW w p s) (k : Nat) : w.frozen? ⟨p, k, none⟩ = false := h.1.frozen k
theorem SpW.reg {w : World} {p : Nat} {s : Sp} (h : SpW w p s) {k : Nat} (hk : k < 16) : w.cell? ⟨p, k, none⟩ = some (.int .u32 (s.c.R.getD k 0)) := by
  rw [h.1.cell, List.getElem?_toArray, Sp.cell_c h.2 (by omega), Ch.cell_reg h.2 hk]
theorem SpW.flags {w : World} {p : Nat} {s : Sp} (h : SpW w p s) : w.cell? ⟨p, 16, none⟩ = some (.bool s.c.nf) ∧ w.cell? ⟨p, 17, none⟩ = some (.bool s.c.zf) ∧ w.cell? ⟨p, 18, none⟩ = some (.bool s.c.cf) ∧ w.cell? ⟨p, 19, none⟩ = some (.bool s.c.vf) ∧
    w.cell? ⟨p, 20, none⟩ = some (.int .i64 s.c.st) ∧ w.cell? ⟨p, 21, none⟩ = some (.int .i64 s.c.num) ∧ w.cell? ⟨p, 22, none⟩ = some (.int .i64 s.c.cyc) := by
  have k : ∀ j, 16 + j < 23 → w.cell? ⟨p, 16 + j, none⟩ = [Value.bool s.c.nf, .bool s.c.zf, .bool s.c.cf, .bool s.c.vf, .int .i64 s.c.st, .int .i64 s.c.num, .int .i64 s.c.cyc][j]? := fun j hj => by
    rw [h.1.cell, List.getElem?_toArray, Sp.cell_c h.2 hj, Ch.cell_rest h.2]
  exact ⟨k 0 (by omega), k 1 (by omega), k 2 (by omega), k 3 (by omega), k 4 (by omega), k 5 (by omega), k 6 (by omega)⟩
theorem SpW.rest {w : World} {p : Nat} {s : Sp} (h : SpW w p s) : w.cell? ⟨p, 23, none⟩ = some s.m ∧ w.cell? ⟨p, 24, none⟩ = some (.int .i64 s.i.op) ∧ w.cell? ⟨p, 25, none⟩ = some (.int .i64 s.i.d) ∧ w.cell? ⟨p, 26, none⟩ = some (.int .i64 s.i.n) ∧
    w.cell? ⟨p, 27, none⟩ = some (.int .i64 s.i.m) ∧ w.cell? ⟨p, 28, none⟩ = some (.int .i64 s.i.imm) ∧ w.cell? ⟨p, 29, none⟩ = some (.int .i64 s.i.cond) ∧ w.cell? ⟨p, 30, none⟩ = some (.int .u32 s.at_) ∧ w.cell? ⟨p, 31, none⟩ = some (.int .i64 s.touch) ∧
    w.cell? ⟨p, 32, none⟩ = some (.int .i64 s.cost) ∧ w.cell? ⟨p, 33, none⟩ = some (.bool s.fault) := by
  have k : ∀ j, w.cell? ⟨p, 23 + j, none⟩ = [s.m, Value.int .i64 s.i.op, .int .i64 s.i.d, .int .i64 s.i.n, .int .i64 s.i.m, .int .i64 s.i.imm, .int .i64 s.i.cond, .int .u32 s.at_, .int .i64 s.touch, .int .i64 s.cost, .bool s.fault][j]? := fun j => by
    rw [h.1.cell, List.getElem?_toArray, Sp.cell_rest h.2]
  exact ⟨k 0, k 1, k 2, k 3, k 4, k 5, k 6, k 7, k 8, k 9, k 10⟩
theorem SpW.put {w : World} {p : Nat} {s s' : Sp} (h : SpW w p s) (k : Nat) (v : Value) (e : s.cells.set k v = s'.cells) (ho : s'.c.ok) : SpW (w.setCell ⟨p, k, none⟩ v) p s' := by
  refine ⟨?_, ho⟩
  have := h.1.set k v
  rw [List.setIfInBounds_toArray, e] at this
  exact this
theorem SpW.only {w w' : World} {p : Nat} {s : Sp} {S : Nat → Prop} (h : SpW w p s) (hO : Only S w w') (hn : ¬ S p) : SpW w' p s := ⟨h.1.only hO hn, h.2⟩
theorem SpW.far {w : World} {p : Nat} {s : Sp} (h : SpW w p s) {a : Addr} (ha : p ≠ a.block) (v : Value) : SpW (w.setCell a v) p s := ⟨h.1.far ha v, h.2⟩
theorem SpW.setReg {w : World} {p : Nat} {s : Sp} (h : SpW w p s) {k : Nat} (hk : k < 16) {x : Int} (hx : U x) : SpW (w.setCell ⟨p, k, none⟩ (.int .u32 x)) p { s with c := { s.c with R := s.c.R.set k x } } :=
  h.put k _ (Sp.set_c h.2 (by omega) (Ch.set_reg h.2 hk x)) (h.2.set k hx)
theorem SpW.setNf {w : World} {p : Nat} {s : Sp} (h : SpW w p s) (b : Bool) : SpW (w.setCell ⟨p, 16, none⟩ (.bool b)) p { s with c := { s.c with nf := b } } := h.put 16 _ (Sp.set_c h.2 (by omega) (Ch.set_nf h.2 b)) ⟨h.2.len, h.2.u⟩
theorem SpW.setZf {w : World} {p : Nat} {s : Sp} (h : SpW w p s) (b : Bool) : SpW (w.setCell ⟨p, 17, none⟩ (.bool b)) p { s with c := { s.c with zf := b } } := h.put 17 _ (Sp.set_c h.2 (by omega) (Ch.set_zf h.2 b)) ⟨h.2.len, h.2.u⟩
theorem SpW.setCf {w : World} {p : Nat} {s : Sp} (h : SpW w p s) (b : Bool) : SpW (w.setCell ⟨p, 18, none⟩ (.bool b)) p { s with c := { s.c with cf := b } } := h.put 18 _ (Sp.set_c h.2 (by omega) (Ch.set_cf h.2 b)) ⟨h.2.len, h.2.u⟩
theorem SpW.setVf {w : World} {p : Nat} {s : Sp} (h : SpW w p s) (b : Bool) : SpW (w.setCell ⟨p, 19, none⟩ (.bool b)) p { s with c := { s.c with vf := b } } := h.put 19 _ (Sp.set_c h.2 (by omega) (Ch.set_vf h.2 b)) ⟨h.2.len, h.2.u⟩
theorem SpW.setSt {w : World} {p : Nat} {s : Sp} (h : SpW w p s) (x : Int) : SpW (w.setCell ⟨p, 20, none⟩ (.int .i64 x)) p { s with c := { s.c with st := x } } := h.put 20 _ (Sp.set_c h.2 (by omega) (Ch.set_st h.2 x)) ⟨h.2.len, h.2.u⟩
theorem SpW.setNum {w : World} {p : Nat} {s : Sp} (h : SpW w p s) (x : Int) : SpW (w.setCell ⟨p, 21, none⟩ (.int .i64 x)) p { s with c := { s.c with num := x } } := h.put 21 _ (Sp.set_c h.2 (by omega) (Ch.set_num h.2 x)) ⟨h.2.len, h.2.u⟩
theorem SpW.setCyc {w : World} {p : Nat} {s : Sp} (h : SpW w p s) (x : Int) : SpW (w.setCell ⟨p, 22, none⟩ (.int .i64 x)) p { s with c := { s.c with cyc := x } } := h.put 22 _ (Sp.set_c h.2 (by omega) (Ch.set_cyc h.2 x)) ⟨h.2.len, h.2.u⟩
theorem SpW.setTouch {w : World} {p : Nat} {s : Sp} (h : SpW w p s) (x : Int) : SpW (w.setCell ⟨p, 31, none⟩ (.int .i64 x)) p { s with touch := x } := h.put 31 _ (Sp.set_touch h.2 x) h.2
theorem SpW.setCost {w : World} {p : Nat} {s : Sp} (h : SpW w p s) (x : Int) : SpW (w.setCell ⟨p, 32, none⟩ (.int .i64 x)) p { s with cost := x } := h.put 32 _ (Sp.set_cost h.2 x) h.2
theorem SpW.setFault {w : World} {p : Nat} {s : Sp} (h : SpW w p s) (b : Bool) : SpW (w.setCell ⟨p, 33, none⟩ (.bool b)) p { s with fault := b } := h.put 33 _ (Sp.set_fault h.2 b) h.2
end Go.Proofs.Ytpihjhfaeloapaa
namespace Go.Proofs.Ytpihjhfaeloapaa
open Go.RowKit On Th
def Sp.setR (s : Sp) (k : Nat) (n : Int) : Sp := { s with c := { s.c with R := s.c.R.set k n } }
theorem set_c (w : World) (p : Nat) (s : Sp) (h : SpW w p s) (d : Nat) (hd : s.i.d = d) (hd2 : d < 16) (n : Int) (hn : U n) :
    Calls Try.prog 54 #[.pointer (some ⟨p, 0, none⟩), .int .u32 n] w fun e w' => e = .returned (.tuple #[]) ∧ SpW w' p (s.setR d n) ∧ Only (fun k => k = p) w w' := by
  obtain ⟨_, _, r2, _⟩ := h.rest
  rw [hd] at r2
  have r0 := h.reg hd2
  have f0 := h.frozen d
  have H := Lib.hid h
  generalize s.c.R.getD d 0 = x at *
  have hdi : (d : Int) < 16 := by omega
  have HN := Lib.hid hn
  clear h hd hn
  go_enter Try.func54, Try.ntmps54
  go_wp2
  go_region
  all_goals go_wp2
  all_goals go_end0
  all_goals exact ⟨rfl, H.out.setReg hd2 HN.out, ((Only.refl (fun k => k = p) w).setCell (p := ⟨p, d, none⟩) (.inl rfl) _).drew⟩
def Sp.sign (s : Sp) (n : Int) : Sp := { s with c := { s.c with nf := n / 2147483648 == 1, zf := n == 0 } }
theorem sign_c (w : World) (p : Nat) (s : Sp) (h : SpW w p s) (n : Int) (hn : U n) :
    Calls Try.prog 57 #[.pointer (some ⟨p, 0, none⟩), .int .u32 n] w fun e w' => e = .returned (.int .u32 n) ∧ SpW w' p (s.sign n) ∧ Only (fun k => k = p) w w' := by
  obtain ⟨f0, f1, f2, f3, f4, f5, f6⟩ := h.flags
  have z0 := h.frozen 16
  have z1 := h.frozen 17
  have H := Lib.hid h
  obtain ⟨hn0, hn1⟩ := hn
  clear h
  go_enter Try.func57, Try.ntmps57
  go_wp2
  go_ret
  exact ⟨rfl, (H.out.setNf _).setZf _, ((Only.refl (fun k => k = p) w).setCell (p := ⟨p, 16, none⟩) (.inl rfl) _).setCell (p := ⟨p, 17, none⟩) (.inl rfl) _⟩
theorem add32_c (w : World) (a b c : Int) (ha : U a) (hb : U b) (hc : 0 ≤ c ∧ c ≤ 1) :
    Calls Try.prog 75 #[.int .u32 a, .int .u32 b, .int .u32 c] w fun e w' => e = .returned (.tuple #[.int .u32 ((a + b + c) % 4294967296), .int .u32 ((a + b + c) / 4294967296)]) ∧ w = w' := by
  obtain ⟨ha0, ha1⟩ := ha
  obtain ⟨hb0, hb1⟩ := hb
  obtain ⟨hc0, hc1⟩ := hc
  go_enter Try.func75, Try.ntmps75
  go_wp2
  go_ret2
  exact ⟨rfl, rfl⟩
/-- a carry -/
def cb (k : Bool) : Int := if k then 1 else 0
def sumX (a b : Int) (k : Bool) : Int := (a + b + cb k) % 4294967296
def vS (a b n : Int) : Bool := bits .and .u32 (bits .xor .u32 a n) (bits .xor .u32 b n) / 2147483648 == 1
def Sp.sum (s : Sp) (a b : Int) (k : Bool) : Sp := Sp.sign { s with c := { s.c with cf := (a + b + cb k) / 4294967296 == 1, vf := vS a b (sumX a b k) } } (sumX a b k)
theorem sumX_U (a b : Int) (k : Bool) : U (sumX a b k) := by unfold sumX U; omega
set_option maxHeartbeats 4000000 in
theorem sum_c (w : World) (p : Nat) (s : Sp) (h : SpW w p s) (a b : Int) (k : Bool) (ha : U a) (hb : U b) :
    Calls Try.prog 55 #[.pointer (some ⟨p, 0, none⟩), .int .u32 a, .int .u32 b, .bool k] w fun e w' => e = .returned (.int .u32 (sumX a b k)) ∧ SpW w' p (s.sum a b k) ∧ Only (fun k => k = p) w w' := by
  obtain ⟨f0, f1, f2, f3, f4, f5, f6⟩ := h.flags
  have z2 := h.frozen 18
  have z3 := h.frozen 19
  have H := Lib.hid h
  have hk : 0 ≤ cb k ∧ cb k ≤ 1 := by cases k <;> decide
  have hadd := add32_c w a b (cb k) ha hb hk
  have HA := Lib.hid hadd
  have HU := Lib.hid (sumX_U a b k)
  have hX : (a + b + cb k) % 4294967296 = sumX a b k := rfl
  rw [hX] at HA
  generalize hc : (a + b + cb k) / 4294967296 = c at HA
  have HC := Lib.hid hc
  have HSG := fun (wq : World) (c' : Ch) (g : SpW wq p { s with c := c' }) => sign_c wq p _ g _ (sumX_U a b k)
  have HS := Lib.hid HSG
  have HD : Hid (s.sum a b k = Sp.sign { s with c := { s.c with cf := c == 1, vf := vS a b (sumX a b k) } } (sumX a b k)) := by show _ = _; rw [← hc]; rfl
  generalize sumX a b k = x at *
  clear hX hc HSG hadd h ha hb hk
  cases k
  all_goals
    dsimp only [cb] at HA
    go_enter Try.func55, Try.ntmps55
    go_wp2_with fail
    refine (HA.out).mono ?_
    rintro e w' ⟨rfl, rfl⟩
    go_wp2_with fail
    refine (HS.out _ { s.c with cf := c == 1, vf := vS a b x } ((H.out.setCf _).setVf _)).mono ?_
    rintro e w2 ⟨rfl, h2, h3⟩
    have HH := Lib.hid h2
    have HO := Lib.hid (((Only.refl (fun k => k = p) _).setCell (p := ⟨p, 18, none⟩) (.inl rfl) _).setCell (p := ⟨p, 19, none⟩) (.inl rfl) _ |>.trans h3 (fun _ _ h => h))
    clear h2 h3
    go_wp2_with fail
    go_ret
    exact ⟨rfl, by rw [HD.out]; exact HH.out, HO.out⟩
/-- the bits turned -/
theorem xor_max (b : Int) (h : U b) : bits .xor .u32 IntKind.u32.max b = 4294967295 - b := by
  obtain ⟨h0, h1⟩ := h
  have hm : IntKind.u32.max = 4294967295 := by decide
  rw [hm, u32_xor _ _ (by decide) (by decide) h0 h1]
  obtain ⟨n, rfl⟩ : ∃ n : Nat, b = n := ⟨b.toNat, by omega⟩
  have hn : n < 4294967296 := by omega
  have h2 := congrArg BitVec.toNat (BitVec.allOnes_xor (x := BitVec.ofNat 32 n))
  rw [BitVec.toNat_xor, BitVec.toNat_not, BitVec.toNat_allOnes, BitVec.toNat_ofNat, Nat.mod_eq_of_lt (by omega)] at h2
  have e : (4294967295 : Int).toNat = 2 ^ 32 - 1 := by decide
  rw [e, Int.toNat_natCast, h2]
  omega
theorem U.neg {b : Int} (h : U b) : U (4294967295 - b) := by unfold U at *; omega
theorem less_c (w : World) (p : Nat) (s : Sp) (h : SpW w p s) (a b : Int) (ha : U a) (hb : U b) :
    Calls Try.prog 56 #[.pointer (some ⟨p, 0, none⟩), .int .u32 a, .int .u32 b] w fun e w' => e = .returned (.int .u32 (sumX a (4294967295 - b) true)) ∧ SpW w' p (s.sum a (4294967295 - b) true) ∧ Only (fun k => k = p) w w' := by
  have HS := Lib.hid (sum_c w p s h a (4294967295 - b) true ha hb.neg)
  have hx := xor_max b hb
  clear h ha hb
  go_enter Try.func56, Try.ntmps56
  go_wp2_with fail
  refine (HS.out).mono ?_
  rintro e w' ⟨rfl, h2, h3⟩
  have HH := Lib.hid h2
  have HO := Lib.hid h3
  clear h2 h3 HS hx
  go_wp2_with fail
  go_ret
  exact ⟨rfl, HH.out, HO.out⟩
end Go.Proofs.Ytpihjhfaeloapaa
namespace Go.Proofs.Ytpihjhfaeloapaa
open Go.RowKit On Th
def shlX (a n : Int) : Int := a * 2 ^ min n.toNat 32 % 4294967296
def shrX (a n : Int) : Int := a / 2 ^ min n.toNat 32
/-- as a number with a sign -/
def sg (a : Int) : Int := if a < 2147483648 then a else a - 4294967296
def shiftL (a n : Int) : Int × Bool := (shlX a n, decide (n ≤ 32) && (shlX a (n - 1) / 2147483648 == 1))
def shiftR (a n : Int) : Int × Bool := (shrX a n, bits .and .u32 (shrX a (n - 1)) 1 == 1)
def shiftA (a n : Int) : Int × Bool := (shrX (sg a) n % 4294967296, bits .and .i32 (shrX (sg a) (n - 1)) 1 == 1)
def rorX (a n : Int) : Int := bits .or .u32 (shlX a ((- (n % 32)) % 32)) (shrX a (32 - (- (n % 32)) % 32))
def shiftO (a n : Int) : Int × Bool := (rorX a n, rorX a n / 2147483648 == 1)
def shiftS (op a n : Int) : Int × Bool := if op = 1 ∨ op = 14 then shiftL a n else if op = 2 ∨ op = 15 then shiftR a n else if op = 3 ∨ op = 16 then shiftA a n else shiftO a n
theorem sh_l (a n : Int) (k : IntKind) (h : 0 ≤ n) : Op.shift .shl .u32 a k n = pure (.int .u32 (shlX a n)) := by
  rw [shift_shl_any _ _ _ _ h, IntKind.wrap_u32']; rfl
theorem sh_r (a n : Int) (k : IntKind) (h : 0 ≤ n) : Op.shift .shr .u32 a k n = pure (.int .u32 (shrX a n)) := by
  rw [shift_shr_any _ _ _ _ h]; rfl
theorem sh_a (a n : Int) (k : IntKind) (h : 0 ≤ n) : Op.shift .shr .i32 a k n = pure (.int .i32 (shrX a n)) := by
  rw [shift_shr_any _ _ _ _ h]; rfl
theorem shrX_U {a : Int} (h : U a) (n : Int) : U (shrX a n) := by
  unfold shrX U at *
  have hp : (0 : Int) < 2 ^ min n.toNat 32 := Int.pow_pos (by decide)
  have h1 := Int.ediv_nonneg h.1 (Int.le_of_lt hp)
  have h2 : a / 2 ^ min n.toNat 32 ≤ a := Int.ediv_le_self _ h.1
  omega
theorem shlX_U (a n : Int) : U (shlX a n) := by unfold shlX U; omega
theorem sg_range {a : Int} (h : U a) : -2147483648 ≤ sg a ∧ sg a ≤ 2147483647 := by unfold sg U at *; split <;> omega
theorem shrX_R {a : Int} (h : -2147483648 ≤ a ∧ a ≤ 2147483647) (n : Int) : -2147483648 ≤ shrX a n ∧ shrX a n ≤ 2147483647 := by
  unfold shrX
  have hp : (0 : Int) < 2 ^ min n.toNat 32 := Int.pow_pos (by decide)
  by_cases h0 : 0 ≤ a
  · have h1 := Int.ediv_nonneg h0 (Int.le_of_lt hp)
    have h2 : a / 2 ^ min n.toNat 32 ≤ a := Int.ediv_le_self _ h0
    omega
  · have h1 : a / 2 ^ min n.toNat 32 < 0 := Int.ediv_neg_of_neg_of_pos (by omega) hp
    have h2 : a ≤ a / 2 ^ min n.toNat 32 := by
      rw [Int.le_ediv_iff_mul_le hp]
      have : (1 : Int) ≤ 2 ^ min n.toNat 32 := by omega
      have h3 : a * 2 ^ min n.toNat 32 ≤ a * 1 := Int.mul_le_mul_of_nonpos_left (by omega) this
      omega
    omega
theorem wrap32_sg {a : Int} (h : U a) : wrap32 a = sg a := by unfold wrap32 sg U at *; split <;> omega
set_option maxHeartbeats 2000000 in
theorem shl_c (w : World) (op a n : Int) (ho : op = 1 ∨ op = 14) (ha : U a) (hn : 1 ≤ n) (hn2 : n ≤ 255) :
    Calls Try.prog 76 #[.int .i64 op, .int .u32 a, .int .u32 n] w fun e w' => e = .returned (.tuple #[.int .u32 (shiftL a n).1, .bool (shiftL a n).2]) ∧ w = w' := by
  obtain ⟨ha0, ha1⟩ := ha
  have s1 := sh_l a n .u32 (by omega)
  have s2 := sh_l a (n - 1) .u32 (by omega)
  have u1 := shlX_U a (n - 1)
  unfold shiftL
  dsimp only
  generalize shlX a n = x at *
  generalize shlX a (n - 1) = y at *
  obtain ⟨u1, u2⟩ := u1
  by_cases h : n ≤ 32
  · have hb : decide (n ≤ 32) = true := decide_eq_true h
    rw [hb, Bool.true_and]
    clear h
    rcases ho with rfl | rfl
    all_goals
      go_enter Try.func76, Try.ntmps76
      go_wp2_with fail
      go_ret2
      exact ⟨rfl, rfl⟩
  · rw [decide_eq_false h, Bool.false_and]
    have h' : 32 < n := by omega
    rcases ho with rfl | rfl
    all_goals
      go_enter Try.func76, Try.ntmps76
      go_wp2_with fail
      go_ret2
      exact ⟨rfl, rfl⟩
set_option maxHeartbeats 2000000 in
theorem shr_c (w : World) (op a n : Int) (ho : op = 2 ∨ op = 15) (ha : U a) (hn : 1 ≤ n) (hn2 : n ≤ 255) :
    Calls Try.prog 76 #[.int .i64 op, .int .u32 a, .int .u32 n] w fun e w' => e = .returned (.tuple #[.int .u32 (shiftR a n).1, .bool (shiftR a n).2]) ∧ w = w' := by
  have s1 := sh_r a n .u32 (by omega)
  have s2 := sh_r a (n - 1) .u32 (by omega)
  have u1 := shrX_U ha (n - 1)
  obtain ⟨ha0, ha1⟩ := ha
  unfold shiftR
  dsimp only
  generalize shrX a n = x at *
  generalize shrX a (n - 1) = y at *
  obtain ⟨u1, u2⟩ := u1
  rcases ho with rfl | rfl
  all_goals
    go_enter Try.func76, Try.ntmps76
    go_wp2_with fail
    go_ret2
    exact ⟨rfl, rfl⟩
set_option maxHeartbeats 2000000 in
theorem sar_c (w : World) (op a n : Int) (ho : op = 3 ∨ op = 16) (ha : U a) (hn : 1 ≤ n) (hn2 : n ≤ 255) :
    Calls Try.prog 76 #[.int .i64 op, .int .u32 a, .int .u32 n] w fun e w' => e = .returned (.tuple #[.int .u32 (shiftA a n).1, .bool (shiftA a n).2]) ∧ w = w' := by
  have s1 := sh_a (sg a) n .u32 (by omega)
  have s2 := sh_a (sg a) (n - 1) .u32 (by omega)
  have u1 := shrX_R (sg_range ha) (n - 1)
  have u2 := shrX_R (sg_range ha) n
  have hw := wrap32_sg ha
  obtain ⟨ha0, ha1⟩ := ha
  unfold shiftA
  dsimp only
  generalize shrX (sg a) n = x at *
  generalize shrX (sg a) (n - 1) = y at *
  generalize sg a = z at *
  obtain ⟨u1, u3⟩ := u1
  obtain ⟨u2, u4⟩ := u2
  rcases ho with rfl | rfl
  all_goals
    go_enter Try.func76, Try.ntmps76
    go_wp2_with fail
    go_ret2
    exact ⟨rfl, rfl⟩
theorem and31_u64 (k : Int) (h0 : -31 ≤ k) (h1 : k ≤ 0) : bits .and .u64 (IntKind.u64.wrap k) 31 = k % 32 := by
  have e : IntKind.u64.wrap k = k % 18446744073709551616 := by rw [IntKind.wrap_u64]
  rw [e, u64_and _ _ (by omega) (by omega) (by decide) (by decide), show (31 : Int).toNat = 31 from rfl, nat_mask5]
  omega
theorem or_comm32 (x y : Int) : bits .or .u32 x y = bits .or .u32 y x := bits_comm_or .u32 x y
set_option maxHeartbeats 2000000 in
theorem rot_c (w : World) (a k : Int) (ha : U a) (hn : -31 ≤ k) (hn2 : k ≤ 0) :
    Calls Try.prog 88 #[.int .u32 a, .int .i64 k] w fun e w' => e = .returned (.int .u32 (bits .or .u32 (shlX a (k % 32)) (shrX a (32 - k % 32)))) ∧ w = w' := by
  have e1 := and31_u64 k hn hn2
  have hk : 0 ≤ k % 32 ∧ k % 32 < 32 := by omega
  obtain ⟨hk0, hk1⟩ := hk
  have hx : a * 2 ^ (k % 32).toNat % 4294967296 = shlX a (k % 32) := by unfold shlX; rw [Nat.min_eq_left (by omega)]
  have hy : a / 2 ^ (32 - k % 32).toNat = shrX a (32 - k % 32) := by unfold shrX; rw [Nat.min_eq_left (by omega)]
  generalize shlX a (k % 32) = x at *
  generalize shrX a (32 - k % 32) = y at *
  generalize hz : k % 32 = z at *
  have HX := Lib.hid hx
  have HY := Lib.hid hy
  clear hz hx hy
  obtain ⟨ha0, ha1⟩ := ha
  go_enter Try.func88, Try.ntmps88
  go_wp2_with fail
  go_ret
  refine ⟨?_, rfl⟩
  rw [← HX.out, ← HY.out]
  rfl
theorem rorX_U {a : Int} (h : U a) (n : Int) : U (rorX a n) := by
  unfold rorX
  obtain ⟨h1, h2⟩ := shlX_U a ((- (n % 32)) % 32)
  obtain ⟨h3, h4⟩ := shrX_U h (32 - (- (n % 32)) % 32)
  rw [u32_or _ _ h1 h2 h3 h4]
  have : (shlX a ((- (n % 32)) % 32)).toNat ||| (shrX a (32 - (- (n % 32)) % 32)).toNat < 2 ^ 32 := Nat.or_lt_two_pow (by omega) (by omega)
  unfold U
  omega
set_option maxHeartbeats 2000000 in
theorem ror_c (w : World) (a n : Int) (ha : U a) (hn : 1 ≤ n) (hn2 : n ≤ 255) :
    Calls Try.prog 76 #[.int .i64 19, .int .u32 a, .int .u32 n] w fun e w' => e = .returned (.tuple #[.int .u32 (rorX a n), .bool (rorX a n / 2147483648 == 1)]) ∧ w = w' := by
  have HR := Lib.hid (rot_c w a (- (n % 32)) ha (by omega) (by omega))
  obtain ⟨u1, u2⟩ := rorX_U ha n
  have hx : bits .or .u32 (shlX a ((- (n % 32)) % 32)) (shrX a (32 - (- (n % 32)) % 32)) = rorX a n := rfl
  rw [hx] at HR
  generalize rorX a n = r at *
  obtain ⟨ha0, ha1⟩ := ha
  clear hx
  go_enter Try.func76, Try.ntmps76
  go_wp2_with fail
  refine (HR.out).mono ?_
  rintro e w' ⟨rfl, rfl⟩
  go_wp2_with fail
  go_ret2
  exact ⟨rfl, rfl⟩
/-- the operations that shift -/
def isSh (op : Int) : Prop := op = 1 ∨ op = 2 ∨ op = 3 ∨ op = 14 ∨ op = 15 ∨ op = 16 ∨ op = 19
theorem shift_c (w : World) (op a n : Int) (ho : isSh op) (ha : U a) (hn : 1 ≤ n) (hn2 : n ≤ 255) :
    Calls Try.prog 76 #[.int .i64 op, .int .u32 a, .int .u32 n] w fun e w' => e = .returned (.tuple #[.int .u32 (shiftS op a n).1, .bool (shiftS op a n).2]) ∧ w = w' := by
  unfold isSh at ho
  rcases ho with rfl | rfl | rfl | rfl | rfl | rfl | rfl
  · exact shl_c w 1 a n (by decide) ha hn hn2
  · exact shr_c w 2 a n (by decide) ha hn hn2
  · exact sar_c w 3 a n (by decide) ha hn hn2
  · exact shl_c w 14 a n (by decide) ha hn hn2
  · exact shr_c w 15 a n (by decide) ha hn hn2
  · exact sar_c w 16 a n (by decide) ha hn hn2
  · exact ror_c w a n ha hn hn2
theorem shiftS_U {op a n : Int} (ho : isSh op) (ha : U a) : U (shiftS op a n).1 := by
  unfold isSh at ho
  rcases ho with rfl | rfl | rfl | rfl | rfl | rfl | rfl
  · exact shlX_U a n
  · exact shrX_U ha n
  · show U (shrX (sg a) n % 4294967296); unfold U; omega
  · exact shlX_U a n
  · exact shrX_U ha n
  · show U (shrX (sg a) n % 4294967296); unfold U; omega
  · exact rorX_U ha n
def Sp.shifted (s : Sp) (op a n : Int) (d : Nat) : Sp :=
  if n = 0 then (s.sign a).setR d a
  else (Sp.sign { s with c := { s.c with cf := (shiftS op a n).2 } } (shiftS op a n).1).setR d (shiftS op a n).1
set_option maxHeartbeats 2000000 in
theorem shifted_c (w : World) (p : Nat) (s : Sp) (h : SpW w p s) (op a n : Int) (d : Nat) (hop : s.i.op = op) (ho : isSh op) (hd : s.i.d = d) (hd2 : d < 16) (ha : U a) (hn : 0 ≤ n) (hn2 : n ≤ 255) :
    Calls Try.prog 58 #[.pointer (some ⟨p, 0, none⟩), .int .u32 a, .int .u32 n] w fun e w' => e = .returned (.tuple #[]) ∧ SpW w' p (s.shifted op a n d) ∧ Only (fun k => k = p) w w' := by
  obtain ⟨_, r1, _⟩ := h.rest
  rw [hop] at r1
  have z2 := h.frozen 18
  obtain ⟨_, _, f2, _⟩ := h.flags
  have H := Lib.hid h
  have HA := Lib.hid ha
  have HSU := Lib.hid (shiftS_U (n := n) ho ha)
  have HD := Lib.hid hd
  have HO := Lib.hid ho
  clear hop h ha hd ho
  unfold Sp.shifted
  by_cases h0 : n = 0
  · subst h0
    rw [if_pos rfl]
    have HSG := Lib.hid (sign_c w p s H.out a HA.out)
    go_enter Try.func58, Try.ntmps58
    go_wp2_with fail
    refine (HSG.out).mono ?_
    rintro e w1 ⟨rfl, h1, o1⟩
    have HST := Lib.hid (set_c w1 p (s.sign a) h1 d HD.out hd2 a HA.out)
    have O1 := Lib.hid o1
    clear h1 o1 r1 z2 f2
    go_wp2_with fail
    refine (HST.out).mono ?_
    rintro e w2 ⟨rfl, h2, o2⟩
    have H2 := Lib.hid h2
    have O2 := Lib.hid (O1.out.trans o2 (fun _ _ h => h))
    clear h2 o2
    go_wp2_with fail
    go_end0
    exact ⟨rfl, H2.out, O2.out⟩
  · rw [if_neg h0]
    have hn1 : 1 ≤ n := by omega
    have HSH := Lib.hid (shift_c w op a n HO.out HA.out hn1 hn2)
    generalize shiftS op a n = r at *
    obtain ⟨x, b⟩ := r
    dsimp only at HSH HSU ⊢
    go_enter Try.func58, Try.ntmps58
    go_wp2_with fail
    refine (HSH.out).mono ?_
    rintro e w' ⟨rfl, rfl⟩
    have HSG := Lib.hid (sign_c _ p _ (H.out.setCf b) x HSU.out)
    go_wp2_with fail
    refine (HSG.out).mono ?_
    rintro e w1 ⟨rfl, h1, o1⟩
    have HST := Lib.hid (set_c w1 p _ h1 d HD.out hd2 x HSU.out)
    have O1 := Lib.hid (((Only.refl (fun k => k = p) w).setCell (p := ⟨p, 18, none⟩) (.inl rfl) _).trans o1 (fun _ _ h => h))
    clear h1 o1 r1 z2 f2
    go_wp2_with fail
    refine (HST.out).mono ?_
    rintro e w2 ⟨rfl, h2, o2⟩
    have H2 := Lib.hid h2
    have O2 := Lib.hid (O1.out.trans o2 (fun _ _ h => h))
    clear h2 o2
    go_wp2_with fail
    go_end0
    exact ⟨rfl, H2.out, O2.out⟩
end Go.Proofs.Ytpihjhfaeloapaa
