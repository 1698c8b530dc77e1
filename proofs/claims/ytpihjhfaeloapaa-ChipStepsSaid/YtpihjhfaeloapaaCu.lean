/- The chip's step: sums. PRINTED by gencu.py. -/
import Derived.Test.YtpihjhfaeloapaaCt
import Derived.BigQuiet
import Derived.Deep.QuietTactic
namespace Go.Proofs.Ytpihjhfaeloapaa
open Go.RowKit On Th
def Sp.rd (s : Sp) : Int := s.c.R.getD s.i.d.toNat 0
def Sp.rn (s : Sp) : Int := s.c.R.getD s.i.n.toNat 0
def Sp.rm (s : Sp) : Int := s.c.R.getD s.i.m.toNat 0
/-- the registers that an instruction names are there; its number is not great -/
structure InsOk (i : Ins) : Prop where
  d0 : 0 ≤ i.d
  d1 : i.d < 16
  n0 : 0 ≤ i.n
  n1 : i.n < 16
  m0 : 0 ≤ i.m
  m1 : i.m < 16
theorem Only.allocN {S : Nat → Prop} (w : World) (o : Obj) (k : Nat) : Only S w ((w.alloc o).drewN k) := ((Only.refl S w).alloc o).drewN k
/-- the sums -/
def Sp.sums (s : Sp) : Option Sp :=
  if s.i.op = 4 then some ((s.sum s.rn s.rm false).setR s.i.d.toNat (sumX s.rn s.rm false))
  else if s.i.op = 5 then some ((s.sum s.rn (4294967295 - s.rm) true).setR s.i.d.toNat (sumX s.rn (4294967295 - s.rm) true))
  else if s.i.op = 6 then some ((s.sum s.rn s.i.imm false).setR s.i.d.toNat (sumX s.rn s.i.imm false))
  else if s.i.op = 7 then some ((s.sum s.rn (4294967295 - s.i.imm) true).setR s.i.d.toNat (sumX s.rn (4294967295 - s.i.imm) true))
  else if s.i.op = 9 then some (s.sum s.rd (4294967295 - s.i.imm) true)
  else if s.i.op = 10 then some ((s.sum s.rd s.i.imm false).setR s.i.d.toNat (sumX s.rd s.i.imm false))
  else if s.i.op = 11 then some ((s.sum s.rd (4294967295 - s.i.imm) true).setR s.i.d.toNat (sumX s.rd (4294967295 - s.i.imm) true))
  else if s.i.op = 17 then some ((s.sum s.rd s.rm s.c.cf).setR s.i.d.toNat (sumX s.rd s.rm s.c.cf))
  else if s.i.op = 18 then some ((s.sum s.rd (4294967295 - s.rm) s.c.cf).setR s.i.d.toNat (sumX s.rd (4294967295 - s.rm) s.c.cf))
  else if s.i.op = 21 then some ((s.sum 0 (4294967295 - s.rm) true).setR s.i.d.toNat (sumX 0 (4294967295 - s.rm) true))
  else if s.i.op = 22 then some (s.sum s.rd (4294967295 - s.rm) true)
  else if s.i.op = 23 then some (s.sum s.rd s.rm false)
  else none
set_option maxHeartbeats 4000000 in
set_option maxRecDepth 100000 in
theorem sums_4 (w : World) (p : Nat) (s : Sp) (h : SpW w p s) (hi : InsOk s.i) (hop : s.i.op = 4) (hk0 : 0 ≤ s.i.imm) (hk1 : s.i.imm ≤ 255) :
    Calls Try.prog 36 #[.pointer (some ⟨p, 0, none⟩)] w fun e w' => e = .returned (.bool true) ∧ SpW w' p ((s.sum s.rn s.rm false).setR s.i.d.toNat (sumX s.rn s.rm false)) ∧ Only (fun k => k = p) w w' := by
  obtain ⟨_, r1, r2, r3, r4, r5, r6, _⟩ := h.rest
  obtain ⟨_, _, f2, _⟩ := h.flags
  rw [hop] at r1
  have hdd : (s.i.d.toNat : Int) = s.i.d := by have := hi.d0; omega
  have hnn : (s.i.n.toNat : Int) = s.i.n := by have := hi.n0; omega
  have hmm : (s.i.m.toNat : Int) = s.i.m := by have := hi.m0; omega
  have hd1 : s.i.d.toNat < 16 := by have := hi.d1; have := hi.d0; omega
  have hn1 : s.i.n.toNat < 16 := by have := hi.n1; have := hi.n0; omega
  have hm1 : s.i.m.toNat < 16 := by have := hi.m1; have := hi.m0; omega
  have qd := h.reg hd1
  have qn := h.reg hn1
  have qm := h.reg hm1
  have HRD : Hid (U s.rd) := h.2.reg hd1
  have HRN : Hid (U s.rn) := h.2.reg hn1
  have HRM : Hid (U s.rm) := h.2.reg hm1
  have HK : Hid (U s.i.imm) := by show U _; unfold U; omega
  have H := Lib.hid h
  have HS := Lib.hid (fun (wq : World) (g : SpW wq p s) (a b : Int) (ha : U a) (hb : U b) => sum_c wq p s g a b false ha hb)
  have HZ : Hid (U 0) := by show U _; unfold U; omega
  have HT := Lib.hid (fun (wq : World) (g : SpW wq p (s.sum s.rn s.rm false)) => set_c wq p _ g s.i.d.toNat hdd.symm hd1 (sumX s.rn s.rm false) (sumX_U _ _ _))
  rw [← hdd] at r2
  rw [← hnn] at r3
  rw [← hmm] at r4
  change w.cell? _ = some (.int .u32 s.rd) at qd
  change w.cell? _ = some (.int .u32 s.rn) at qn
  change w.cell? _ = some (.int .u32 s.rm) at qm
  obtain ⟨rd1, rd2⟩ := HRD.out
  obtain ⟨rn1, rn2⟩ := HRN.out
  obtain ⟨rm1, rm2⟩ := HRM.out
  generalize s.rd = rd at *
  generalize s.rn = rn at *
  generalize s.rm = rm at *
  generalize s.i.imm = imm at *
  generalize s.i.d.toNat = d at *
  generalize s.i.n.toNat = n at *
  generalize s.i.m.toNat = m at *
  generalize s.i.cond = cond at *
  clear hop hdd hnn hmm hi h
  have hdi : (d : Int) < 16 := by omega
  have hni : (n : Int) < 16 := by omega
  have hmi : (m : Int) < 16 := by omega
  have hlt := H.out.lt
  obtain ⟨wn, hwn⟩ : ∃ wn, wn = w.alloc (.cells #[.int .i64 4, .int .i64 d, .int .i64 n, .int .i64 m, .int .i64 imm, .int .i64 cond] 36) := ⟨_, rfl⟩
  obtain ⟨X, hX⟩ : ∃ X, X = w.heap.size := ⟨_, rfl⟩
  have kb : Blk wn X 36 #[.int .i64 4, .int .i64 d, .int .i64 n, .int .i64 m, .int .i64 imm, .int .i64 cond] := by rw [hwn, hX]; exact Blk.new _ _ _
  have HON : Hid (Only (fun k => k = p) w wn) := by rw [hwn]; exact (Only.refl _ _).alloc _
  have HSN : Hid (SpW wn p s) := H.out.only (S := fun _ => False) (by rw [hwn]; exact (Only.refl _ _).alloc _) id
  have tr : ∀ (k : Nat) (v : Value), w.cell? ⟨p, k, none⟩ = some v → wn.cell? ⟨p, k, none⟩ = some v := fun k v e => by
    rw [((by rw [hwn]; exact (Only.refl _ _).alloc _ : Only (fun _ => False) w wn)).cell (p := ⟨p, k, none⟩) hlt id]; exact e
  have pd := tr _ _ qd; have pn := tr _ _ qn; have pm := tr _ _ qm; have g2 := tr _ _ f2
  have b0 := kb.cell 0
  have b1 := kb.cell 1
  have b2 := kb.cell 2
  have b3 := kb.cell 3
  have b4 := kb.cell 4
  simp at b0 b1 b2 b3 b4
  go_enter Try.func36, Try.ntmps36
  go_wp2_with fail
  rw [← hwn, ← hX]
  clear hwn hX qd qn qm f2 r1 r2 r3 r4 r5 r6 tr hlt kb
  go_quiet (fail)
  obtain ⟨wq, hwq⟩ : ∃ wq, wq = wn.drewN nq := ⟨_, rfl⟩
  have HQ : Hid (SpW wq p s) := by rw [hwq]; exact HSN.out.only (S := fun _ => False) ((Only.refl _ _).drewN _) id
  have HOQ : Hid (Only (fun k => k = p) w wq) := by rw [hwq]; exact HON.out.drewN _
  have c0 : wq.cell? ⟨X, 0, none⟩ = some (.int .i64 4) := by rw [hwq]; exact b0
  have c2 : wq.cell? ⟨p, 18, none⟩ = some (.bool s.c.cf) := by rw [hwq]; exact g2
  rw [← hwq]
  clear hwq b0 b1 b2 b3 b4 pd pn pm g2
  go_wp2_with fail
  refine (HS.out _ HQ.out rn rm HRN.out HRM.out).mono ?_
  rintro e w1 ⟨rfl, h1, o1⟩
  have H1 := Lib.hid h1
  have O1 := Lib.hid (HOQ.out.trans o1 (fun _ _ h => h))
  clear h1 o1 c0 c2
  go_wp2_with fail
  refine (HT.out _ H1.out).mono ?_
  rintro e w2 ⟨rfl, h2, o2⟩
  have H2 := Lib.hid h2
  have O2 := Lib.hid (O1.out.trans o2 (fun _ _ h => h))
  clear h2 o2
  go_wp2_with fail
  go_ret
  exact ⟨rfl, H2.out, O2.out⟩
set_option maxHeartbeats 4000000 in
set_option maxRecDepth 100000 in
theorem sums_5 (w : World) (p : Nat) (s : Sp) (h : SpW w p s) (hi : InsOk s.i) (hop : s.i.op = 5) (hk0 : 0 ≤ s.i.imm) (hk1 : s.i.imm ≤ 255) :
    Calls Try.prog 36 #[.pointer (some ⟨p, 0, none⟩)] w fun e w' => e = .returned (.bool true) ∧ SpW w' p ((s.sum s.rn (4294967295 - s.rm) true).setR s.i.d.toNat (sumX s.rn (4294967295 - s.rm) true)) ∧ Only (fun k => k = p) w w' := by
  obtain ⟨_, r1, r2, r3, r4, r5, r6, _⟩ := h.rest
  obtain ⟨_, _, f2, _⟩ := h.flags
  rw [hop] at r1
  have hdd : (s.i.d.toNat : Int) = s.i.d := by have := hi.d0; omega
  have hnn : (s.i.n.toNat : Int) = s.i.n := by have := hi.n0; omega
  have hmm : (s.i.m.toNat : Int) = s.i.m := by have := hi.m0; omega
  have hd1 : s.i.d.toNat < 16 := by have := hi.d1; have := hi.d0; omega
  have hn1 : s.i.n.toNat < 16 := by have := hi.n1; have := hi.n0; omega
  have hm1 : s.i.m.toNat < 16 := by have := hi.m1; have := hi.m0; omega
  have qd := h.reg hd1
  have qn := h.reg hn1
  have qm := h.reg hm1
  have HRD : Hid (U s.rd) := h.2.reg hd1
  have HRN : Hid (U s.rn) := h.2.reg hn1
  have HRM : Hid (U s.rm) := h.2.reg hm1
  have HK : Hid (U s.i.imm) := by show U _; unfold U; omega
  have H := Lib.hid h
  have HS := Lib.hid (fun (wq : World) (g : SpW wq p s) (a b : Int) (ha : U a) (hb : U b) => less_c wq p s g a b ha hb)
  have HZ : Hid (U 0) := by show U _; unfold U; omega
  have HT := Lib.hid (fun (wq : World) (g : SpW wq p (s.sum s.rn (4294967295 - s.rm) true)) => set_c wq p _ g s.i.d.toNat hdd.symm hd1 (sumX s.rn (4294967295 - s.rm) true) (sumX_U _ _ _))
  rw [← hdd] at r2
  rw [← hnn] at r3
  rw [← hmm] at r4
  change w.cell? _ = some (.int .u32 s.rd) at qd
  change w.cell? _ = some (.int .u32 s.rn) at qn
  change w.cell? _ = some (.int .u32 s.rm) at qm
  obtain ⟨rd1, rd2⟩ := HRD.out
  obtain ⟨rn1, rn2⟩ := HRN.out
  obtain ⟨rm1, rm2⟩ := HRM.out
  generalize s.rd = rd at *
  generalize s.rn = rn at *
  generalize s.rm = rm at *
  generalize s.i.imm = imm at *
  generalize s.i.d.toNat = d at *
  generalize s.i.n.toNat = n at *
  generalize s.i.m.toNat = m at *
  generalize s.i.cond = cond at *
  clear hop hdd hnn hmm hi h
  have hdi : (d : Int) < 16 := by omega
  have hni : (n : Int) < 16 := by omega
  have hmi : (m : Int) < 16 := by omega
  have hlt := H.out.lt
  obtain ⟨wn, hwn⟩ : ∃ wn, wn = w.alloc (.cells #[.int .i64 5, .int .i64 d, .int .i64 n, .int .i64 m, .int .i64 imm, .int .i64 cond] 36) := ⟨_, rfl⟩
  obtain ⟨X, hX⟩ : ∃ X, X = w.heap.size := ⟨_, rfl⟩
  have kb : Blk wn X 36 #[.int .i64 5, .int .i64 d, .int .i64 n, .int .i64 m, .int .i64 imm, .int .i64 cond] := by rw [hwn, hX]; exact Blk.new _ _ _
  have HON : Hid (Only (fun k => k = p) w wn) := by rw [hwn]; exact (Only.refl _ _).alloc _
  have HSN : Hid (SpW wn p s) := H.out.only (S := fun _ => False) (by rw [hwn]; exact (Only.refl _ _).alloc _) id
  have tr : ∀ (k : Nat) (v : Value), w.cell? ⟨p, k, none⟩ = some v → wn.cell? ⟨p, k, none⟩ = some v := fun k v e => by
    rw [((by rw [hwn]; exact (Only.refl _ _).alloc _ : Only (fun _ => False) w wn)).cell (p := ⟨p, k, none⟩) hlt id]; exact e
  have pd := tr _ _ qd; have pn := tr _ _ qn; have pm := tr _ _ qm; have g2 := tr _ _ f2
  have b0 := kb.cell 0
  have b1 := kb.cell 1
  have b2 := kb.cell 2
  have b3 := kb.cell 3
  have b4 := kb.cell 4
  simp at b0 b1 b2 b3 b4
  go_enter Try.func36, Try.ntmps36
  go_wp2_with fail
  rw [← hwn, ← hX]
  clear hwn hX qd qn qm f2 r1 r2 r3 r4 r5 r6 tr hlt kb
  go_quiet (fail)
  obtain ⟨wq, hwq⟩ : ∃ wq, wq = wn.drewN nq := ⟨_, rfl⟩
  have HQ : Hid (SpW wq p s) := by rw [hwq]; exact HSN.out.only (S := fun _ => False) ((Only.refl _ _).drewN _) id
  have HOQ : Hid (Only (fun k => k = p) w wq) := by rw [hwq]; exact HON.out.drewN _
  have c0 : wq.cell? ⟨X, 0, none⟩ = some (.int .i64 5) := by rw [hwq]; exact b0
  have c2 : wq.cell? ⟨p, 18, none⟩ = some (.bool s.c.cf) := by rw [hwq]; exact g2
  rw [← hwq]
  clear hwq b0 b1 b2 b3 b4 pd pn pm g2
  go_wp2_with fail
  refine (HS.out _ HQ.out rn rm HRN.out HRM.out).mono ?_
  rintro e w1 ⟨rfl, h1, o1⟩
  have H1 := Lib.hid h1
  have O1 := Lib.hid (HOQ.out.trans o1 (fun _ _ h => h))
  clear h1 o1 c0 c2
  go_wp2_with fail
  refine (HT.out _ H1.out).mono ?_
  rintro e w2 ⟨rfl, h2, o2⟩
  have H2 := Lib.hid h2
  have O2 := Lib.hid (O1.out.trans o2 (fun _ _ h => h))
  clear h2 o2
  go_wp2_with fail
  go_ret
  exact ⟨rfl, H2.out, O2.out⟩
set_option maxHeartbeats 4000000 in
set_option maxRecDepth 100000 in
theorem sums_6 (w : World) (p : Nat) (s : Sp) (h : SpW w p s) (hi : InsOk s.i) (hop : s.i.op = 6) (hk0 : 0 ≤ s.i.imm) (hk1 : s.i.imm ≤ 255) :
    Calls Try.prog 36 #[.pointer (some ⟨p, 0, none⟩)] w fun e w' => e = .returned (.bool true) ∧ SpW w' p ((s.sum s.rn s.i.imm false).setR s.i.d.toNat (sumX s.rn s.i.imm false)) ∧ Only (fun k => k = p) w w' := by
  obtain ⟨_, r1, r2, r3, r4, r5, r6, _⟩ := h.rest
  obtain ⟨_, _, f2, _⟩ := h.flags
  rw [hop] at r1
  have hdd : (s.i.d.toNat : Int) = s.i.d := by have := hi.d0; omega
  have hnn : (s.i.n.toNat : Int) = s.i.n := by have := hi.n0; omega
  have hmm : (s.i.m.toNat : Int) = s.i.m := by have := hi.m0; omega
  have hd1 : s.i.d.toNat < 16 := by have := hi.d1; have := hi.d0; omega
  have hn1 : s.i.n.toNat < 16 := by have := hi.n1; have := hi.n0; omega
  have hm1 : s.i.m.toNat < 16 := by have := hi.m1; have := hi.m0; omega
  have qd := h.reg hd1
  have qn := h.reg hn1
  have qm := h.reg hm1
  have HRD : Hid (U s.rd) := h.2.reg hd1
  have HRN : Hid (U s.rn) := h.2.reg hn1
  have HRM : Hid (U s.rm) := h.2.reg hm1
  have HK : Hid (U s.i.imm) := by show U _; unfold U; omega
  have H := Lib.hid h
  have HS := Lib.hid (fun (wq : World) (g : SpW wq p s) (a b : Int) (ha : U a) (hb : U b) => sum_c wq p s g a b false ha hb)
  have HZ : Hid (U 0) := by show U _; unfold U; omega
  have HT := Lib.hid (fun (wq : World) (g : SpW wq p (s.sum s.rn s.i.imm false)) => set_c wq p _ g s.i.d.toNat hdd.symm hd1 (sumX s.rn s.i.imm false) (sumX_U _ _ _))
  rw [← hdd] at r2
  rw [← hnn] at r3
  rw [← hmm] at r4
  change w.cell? _ = some (.int .u32 s.rd) at qd
  change w.cell? _ = some (.int .u32 s.rn) at qn
  change w.cell? _ = some (.int .u32 s.rm) at qm
  obtain ⟨rd1, rd2⟩ := HRD.out
  obtain ⟨rn1, rn2⟩ := HRN.out
  obtain ⟨rm1, rm2⟩ := HRM.out
  generalize s.rd = rd at *
  generalize s.rn = rn at *
  generalize s.rm = rm at *
  generalize s.i.imm = imm at *
  generalize s.i.d.toNat = d at *
  generalize s.i.n.toNat = n at *
  generalize s.i.m.toNat = m at *
  generalize s.i.cond = cond at *
  clear hop hdd hnn hmm hi h
  have hdi : (d : Int) < 16 := by omega
  have hni : (n : Int) < 16 := by omega
  have hmi : (m : Int) < 16 := by omega
  have hlt := H.out.lt
  obtain ⟨wn, hwn⟩ : ∃ wn, wn = w.alloc (.cells #[.int .i64 6, .int .i64 d, .int .i64 n, .int .i64 m, .int .i64 imm, .int .i64 cond] 36) := ⟨_, rfl⟩
  obtain ⟨X, hX⟩ : ∃ X, X = w.heap.size := ⟨_, rfl⟩
  have kb : Blk wn X 36 #[.int .i64 6, .int .i64 d, .int .i64 n, .int .i64 m, .int .i64 imm, .int .i64 cond] := by rw [hwn, hX]; exact Blk.new _ _ _
  have HON : Hid (Only (fun k => k = p) w wn) := by rw [hwn]; exact (Only.refl _ _).alloc _
  have HSN : Hid (SpW wn p s) := H.out.only (S := fun _ => False) (by rw [hwn]; exact (Only.refl _ _).alloc _) id
  have tr : ∀ (k : Nat) (v : Value), w.cell? ⟨p, k, none⟩ = some v → wn.cell? ⟨p, k, none⟩ = some v := fun k v e => by
    rw [((by rw [hwn]; exact (Only.refl _ _).alloc _ : Only (fun _ => False) w wn)).cell (p := ⟨p, k, none⟩) hlt id]; exact e
  have pd := tr _ _ qd; have pn := tr _ _ qn; have pm := tr _ _ qm; have g2 := tr _ _ f2
  have b0 := kb.cell 0
  have b1 := kb.cell 1
  have b2 := kb.cell 2
  have b3 := kb.cell 3
  have b4 := kb.cell 4
  simp at b0 b1 b2 b3 b4
  go_enter Try.func36, Try.ntmps36
  go_wp2_with fail
  rw [← hwn, ← hX]
  clear hwn hX qd qn qm f2 r1 r2 r3 r4 r5 r6 tr hlt kb
  go_quiet (fail)
  obtain ⟨wq, hwq⟩ : ∃ wq, wq = wn.drewN nq := ⟨_, rfl⟩
  have HQ : Hid (SpW wq p s) := by rw [hwq]; exact HSN.out.only (S := fun _ => False) ((Only.refl _ _).drewN _) id
  have HOQ : Hid (Only (fun k => k = p) w wq) := by rw [hwq]; exact HON.out.drewN _
  have c0 : wq.cell? ⟨X, 0, none⟩ = some (.int .i64 6) := by rw [hwq]; exact b0
  have c2 : wq.cell? ⟨p, 18, none⟩ = some (.bool s.c.cf) := by rw [hwq]; exact g2
  rw [← hwq]
  clear hwq b0 b1 b2 b3 b4 pd pn pm g2
  go_wp2_with fail
  refine (HS.out _ HQ.out rn imm HRN.out HK.out).mono ?_
  rintro e w1 ⟨rfl, h1, o1⟩
  have H1 := Lib.hid h1
  have O1 := Lib.hid (HOQ.out.trans o1 (fun _ _ h => h))
  clear h1 o1 c0 c2
  go_wp2_with fail
  refine (HT.out _ H1.out).mono ?_
  rintro e w2 ⟨rfl, h2, o2⟩
  have H2 := Lib.hid h2
  have O2 := Lib.hid (O1.out.trans o2 (fun _ _ h => h))
  clear h2 o2
  go_wp2_with fail
  go_ret
  exact ⟨rfl, H2.out, O2.out⟩
set_option maxHeartbeats 4000000 in
set_option maxRecDepth 100000 in
theorem sums_7 (w : World) (p : Nat) (s : Sp) (h : SpW w p s) (hi : InsOk s.i) (hop : s.i.op = 7) (hk0 : 0 ≤ s.i.imm) (hk1 : s.i.imm ≤ 255) :
    Calls Try.prog 36 #[.pointer (some ⟨p, 0, none⟩)] w fun e w' => e = .returned (.bool true) ∧ SpW w' p ((s.sum s.rn (4294967295 - s.i.imm) true).setR s.i.d.toNat (sumX s.rn (4294967295 - s.i.imm) true)) ∧ Only (fun k => k = p) w w' := by
  obtain ⟨_, r1, r2, r3, r4, r5, r6, _⟩ := h.rest
  obtain ⟨_, _, f2, _⟩ := h.flags
  rw [hop] at r1
  have hdd : (s.i.d.toNat : Int) = s.i.d := by have := hi.d0; omega
  have hnn : (s.i.n.toNat : Int) = s.i.n := by have := hi.n0; omega
  have hmm : (s.i.m.toNat : Int) = s.i.m := by have := hi.m0; omega
  have hd1 : s.i.d.toNat < 16 := by have := hi.d1; have := hi.d0; omega
  have hn1 : s.i.n.toNat < 16 := by have := hi.n1; have := hi.n0; omega
  have hm1 : s.i.m.toNat < 16 := by have := hi.m1; have := hi.m0; omega
  have qd := h.reg hd1
  have qn := h.reg hn1
  have qm := h.reg hm1
  have HRD : Hid (U s.rd) := h.2.reg hd1
  have HRN : Hid (U s.rn) := h.2.reg hn1
  have HRM : Hid (U s.rm) := h.2.reg hm1
  have HK : Hid (U s.i.imm) := by show U _; unfold U; omega
  have H := Lib.hid h
  have HS := Lib.hid (fun (wq : World) (g : SpW wq p s) (a b : Int) (ha : U a) (hb : U b) => less_c wq p s g a b ha hb)
  have HZ : Hid (U 0) := by show U _; unfold U; omega
  have HT := Lib.hid (fun (wq : World) (g : SpW wq p (s.sum s.rn (4294967295 - s.i.imm) true)) => set_c wq p _ g s.i.d.toNat hdd.symm hd1 (sumX s.rn (4294967295 - s.i.imm) true) (sumX_U _ _ _))
  rw [← hdd] at r2
  rw [← hnn] at r3
  rw [← hmm] at r4
  change w.cell? _ = some (.int .u32 s.rd) at qd
  change w.cell? _ = some (.int .u32 s.rn) at qn
  change w.cell? _ = some (.int .u32 s.rm) at qm
  obtain ⟨rd1, rd2⟩ := HRD.out
  obtain ⟨rn1, rn2⟩ := HRN.out
  obtain ⟨rm1, rm2⟩ := HRM.out
  generalize s.rd = rd at *
  generalize s.rn = rn at *
  generalize s.rm = rm at *
  generalize s.i.imm = imm at *
  generalize s.i.d.toNat = d at *
  generalize s.i.n.toNat = n at *
  generalize s.i.m.toNat = m at *
  generalize s.i.cond = cond at *
  clear hop hdd hnn hmm hi h
  have hdi : (d : Int) < 16 := by omega
  have hni : (n : Int) < 16 := by omega
  have hmi : (m : Int) < 16 := by omega
  have hlt := H.out.lt
  obtain ⟨wn, hwn⟩ : ∃ wn, wn = w.alloc (.cells #[.int .i64 7, .int .i64 d, .int .i64 n, .int .i64 m, .int .i64 imm, .int .i64 cond] 36) := ⟨_, rfl⟩
  obtain ⟨X, hX⟩ : ∃ X, X = w.heap.size := ⟨_, rfl⟩
  have kb : Blk wn X 36 #[.int .i64 7, .int .i64 d, .int .i64 n, .int .i64 m, .int .i64 imm, .int .i64 cond] := by rw [hwn, hX]; exact Blk.new _ _ _
  have HON : Hid (Only (fun k => k = p) w wn) := by rw [hwn]; exact (Only.refl _ _).alloc _
  have HSN : Hid (SpW wn p s) := H.out.only (S := fun _ => False) (by rw [hwn]; exact (Only.refl _ _).alloc _) id
  have tr : ∀ (k : Nat) (v : Value), w.cell? ⟨p, k, none⟩ = some v → wn.cell? ⟨p, k, none⟩ = some v := fun k v e => by
    rw [((by rw [hwn]; exact (Only.refl _ _).alloc _ : Only (fun _ => False) w wn)).cell (p := ⟨p, k, none⟩) hlt id]; exact e
  have pd := tr _ _ qd; have pn := tr _ _ qn; have pm := tr _ _ qm; have g2 := tr _ _ f2
  have b0 := kb.cell 0
  have b1 := kb.cell 1
  have b2 := kb.cell 2
  have b3 := kb.cell 3
  have b4 := kb.cell 4
  simp at b0 b1 b2 b3 b4
  go_enter Try.func36, Try.ntmps36
  go_wp2_with fail
  rw [← hwn, ← hX]
  clear hwn hX qd qn qm f2 r1 r2 r3 r4 r5 r6 tr hlt kb
  go_quiet (fail)
  obtain ⟨wq, hwq⟩ : ∃ wq, wq = wn.drewN nq := ⟨_, rfl⟩
  have HQ : Hid (SpW wq p s) := by rw [hwq]; exact HSN.out.only (S := fun _ => False) ((Only.refl _ _).drewN _) id
  have HOQ : Hid (Only (fun k => k = p) w wq) := by rw [hwq]; exact HON.out.drewN _
  have c0 : wq.cell? ⟨X, 0, none⟩ = some (.int .i64 7) := by rw [hwq]; exact b0
  have c2 : wq.cell? ⟨p, 18, none⟩ = some (.bool s.c.cf) := by rw [hwq]; exact g2
  rw [← hwq]
  clear hwq b0 b1 b2 b3 b4 pd pn pm g2
  go_wp2_with fail
  refine (HS.out _ HQ.out rn imm HRN.out HK.out).mono ?_
  rintro e w1 ⟨rfl, h1, o1⟩
  have H1 := Lib.hid h1
  have O1 := Lib.hid (HOQ.out.trans o1 (fun _ _ h => h))
  clear h1 o1 c0 c2
  go_wp2_with fail
  refine (HT.out _ H1.out).mono ?_
  rintro e w2 ⟨rfl, h2, o2⟩
  have H2 := Lib.hid h2
  have O2 := Lib.hid (O1.out.trans o2 (fun _ _ h => h))
  clear h2 o2
  go_wp2_with fail
  go_ret
  exact ⟨rfl, H2.out, O2.out⟩
set_option maxHeartbeats 4000000 in
set_option maxRecDepth 100000 in
theorem sums_9 (w : World) (p : Nat) (s : Sp) (h : SpW w p s) (hi : InsOk s.i) (hop : s.i.op = 9) (hk0 : 0 ≤ s.i.imm) (hk1 : s.i.imm ≤ 255) :
    Calls Try.prog 36 #[.pointer (some ⟨p, 0, none⟩)] w fun e w' => e = .returned (.bool true) ∧ SpW w' p (s.sum s.rd (4294967295 - s.i.imm) true) ∧ Only (fun k => k = p) w w' := by
  obtain ⟨_, r1, r2, r3, r4, r5, r6, _⟩ := h.rest
  obtain ⟨_, _, f2, _⟩ := h.flags
  rw [hop] at r1
  have hdd : (s.i.d.toNat : Int) = s.i.d := by have := hi.d0; omega
  have hnn : (s.i.n.toNat : Int) = s.i.n := by have := hi.n0; omega
  have hmm : (s.i.m.toNat : Int) = s.i.m := by have := hi.m0; omega
  have hd1 : s.i.d.toNat < 16 := by have := hi.d1; have := hi.d0; omega
  have hn1 : s.i.n.toNat < 16 := by have := hi.n1; have := hi.n0; omega
  have hm1 : s.i.m.toNat < 16 := by have := hi.m1; have := hi.m0; omega
  have qd := h.reg hd1
  have qn := h.reg hn1
  have qm := h.reg hm1
  have HRD : Hid (U s.rd) := h.2.reg hd1
  have HRN : Hid (U s.rn) := h.2.reg hn1
  have HRM : Hid (U s.rm) := h.2.reg hm1
  have HK : Hid (U s.i.imm) := by show U _; unfold U; omega
  have H := Lib.hid h
  have HS := Lib.hid (fun (wq : World) (g : SpW wq p s) (a b : Int) (ha : U a) (hb : U b) => less_c wq p s g a b ha hb)
  have HZ : Hid (U 0) := by show U _; unfold U; omega
  rw [← hdd] at r2
  rw [← hnn] at r3
  rw [← hmm] at r4
  change w.cell? _ = some (.int .u32 s.rd) at qd
  change w.cell? _ = some (.int .u32 s.rn) at qn
  change w.cell? _ = some (.int .u32 s.rm) at qm
  obtain ⟨rd1, rd2⟩ := HRD.out
  obtain ⟨rn1, rn2⟩ := HRN.out
  obtain ⟨rm1, rm2⟩ := HRM.out
  generalize s.rd = rd at *
  generalize s.rn = rn at *
  generalize s.rm = rm at *
  generalize s.i.imm = imm at *
  generalize s.i.d.toNat = d at *
  generalize s.i.n.toNat = n at *
  generalize s.i.m.toNat = m at *
  generalize s.i.cond = cond at *
  clear hop hdd hnn hmm hi h
  have hdi : (d : Int) < 16 := by omega
  have hni : (n : Int) < 16 := by omega
  have hmi : (m : Int) < 16 := by omega
  have hlt := H.out.lt
  obtain ⟨wn, hwn⟩ : ∃ wn, wn = w.alloc (.cells #[.int .i64 9, .int .i64 d, .int .i64 n, .int .i64 m, .int .i64 imm, .int .i64 cond] 36) := ⟨_, rfl⟩
  obtain ⟨X, hX⟩ : ∃ X, X = w.heap.size := ⟨_, rfl⟩
  have kb : Blk wn X 36 #[.int .i64 9, .int .i64 d, .int .i64 n, .int .i64 m, .int .i64 imm, .int .i64 cond] := by rw [hwn, hX]; exact Blk.new _ _ _
  have HON : Hid (Only (fun k => k = p) w wn) := by rw [hwn]; exact (Only.refl _ _).alloc _
  have HSN : Hid (SpW wn p s) := H.out.only (S := fun _ => False) (by rw [hwn]; exact (Only.refl _ _).alloc _) id
  have tr : ∀ (k : Nat) (v : Value), w.cell? ⟨p, k, none⟩ = some v → wn.cell? ⟨p, k, none⟩ = some v := fun k v e => by
    rw [((by rw [hwn]; exact (Only.refl _ _).alloc _ : Only (fun _ => False) w wn)).cell (p := ⟨p, k, none⟩) hlt id]; exact e
  have pd := tr _ _ qd; have pn := tr _ _ qn; have pm := tr _ _ qm; have g2 := tr _ _ f2
  have b0 := kb.cell 0
  have b1 := kb.cell 1
  have b2 := kb.cell 2
  have b3 := kb.cell 3
  have b4 := kb.cell 4
  simp at b0 b1 b2 b3 b4
  go_enter Try.func36, Try.ntmps36
  go_wp2_with fail
  rw [← hwn, ← hX]
  clear hwn hX qd qn qm f2 r1 r2 r3 r4 r5 r6 tr hlt kb
  go_quiet (fail)
  obtain ⟨wq, hwq⟩ : ∃ wq, wq = wn.drewN nq := ⟨_, rfl⟩
  have HQ : Hid (SpW wq p s) := by rw [hwq]; exact HSN.out.only (S := fun _ => False) ((Only.refl _ _).drewN _) id
  have HOQ : Hid (Only (fun k => k = p) w wq) := by rw [hwq]; exact HON.out.drewN _
  have c0 : wq.cell? ⟨X, 0, none⟩ = some (.int .i64 9) := by rw [hwq]; exact b0
  have c2 : wq.cell? ⟨p, 18, none⟩ = some (.bool s.c.cf) := by rw [hwq]; exact g2
  rw [← hwq]
  clear hwq b0 b1 b2 b3 b4 pd pn pm g2
  go_wp2_with fail
  refine (HS.out _ HQ.out rd imm HRD.out HK.out).mono ?_
  rintro e w1 ⟨rfl, h1, o1⟩
  have H1 := Lib.hid h1
  have O1 := Lib.hid (HOQ.out.trans o1 (fun _ _ h => h))
  clear h1 o1 c0 c2
  go_wp2_with fail
  go_ret
  exact ⟨rfl, H1.out, O1.out⟩
set_option maxHeartbeats 4000000 in
set_option maxRecDepth 100000 in
theorem sums_10 (w : World) (p : Nat) (s : Sp) (h : SpW w p s) (hi : InsOk s.i) (hop : s.i.op = 10) (hk0 : 0 ≤ s.i.imm) (hk1 : s.i.imm ≤ 255) :
    Calls Try.prog 36 #[.pointer (some ⟨p, 0, none⟩)] w fun e w' => e = .returned (.bool true) ∧ SpW w' p ((s.sum s.rd s.i.imm false).setR s.i.d.toNat (sumX s.rd s.i.imm false)) ∧ Only (fun k => k = p) w w' := by
  obtain ⟨_, r1, r2, r3, r4, r5, r6, _⟩ := h.rest
  obtain ⟨_, _, f2, _⟩ := h.flags
  rw [hop] at r1
  have hdd : (s.i.d.toNat : Int) = s.i.d := by have := hi.d0; omega
  have hnn : (s.i.n.toNat : Int) = s.i.n := by have := hi.n0; omega
  have hmm : (s.i.m.toNat : Int) = s.i.m := by have := hi.m0; omega
  have hd1 : s.i.d.toNat < 16 := by have := hi.d1; have := hi.d0; omega
  have hn1 : s.i.n.toNat < 16 := by have := hi.n1; have := hi.n0; omega
  have hm1 : s.i.m.toNat < 16 := by have := hi.m1; have := hi.m0; omega
  have qd := h.reg hd1
  have qn := h.reg hn1
  have qm := h.reg hm1
  have HRD : Hid (U s.rd) := h.2.reg hd1
  have HRN : Hid (U s.rn) := h.2.reg hn1
  have HRM : Hid (U s.rm) := h.2.reg hm1
  have HK : Hid (U s.i.imm) := by show U _; unfold U; omega
  have H := Lib.hid h
  have HS := Lib.hid (fun (wq : World) (g : SpW wq p s) (a b : Int) (ha : U a) (hb : U b) => sum_c wq p s g a b false ha hb)
  have HZ : Hid (U 0) := by show U _; unfold U; omega
  have HT := Lib.hid (fun (wq : World) (g : SpW wq p (s.sum s.rd s.i.imm false)) => set_c wq p _ g s.i.d.toNat hdd.symm hd1 (sumX s.rd s.i.imm false) (sumX_U _ _ _))
  rw [← hdd] at r2
  rw [← hnn] at r3
  rw [← hmm] at r4
  change w.cell? _ = some (.int .u32 s.rd) at qd
  change w.cell? _ = some (.int .u32 s.rn) at qn
  change w.cell? _ = some (.int .u32 s.rm) at qm
  obtain ⟨rd1, rd2⟩ := HRD.out
  obtain ⟨rn1, rn2⟩ := HRN.out
  obtain ⟨rm1, rm2⟩ := HRM.out
  generalize s.rd = rd at *
  generalize s.rn = rn at *
  generalize s.rm = rm at *
  generalize s.i.imm = imm at *
  generalize s.i.d.toNat = d at *
  generalize s.i.n.toNat = n at *
  generalize s.i.m.toNat = m at *
  generalize s.i.cond = cond at *
  clear hop hdd hnn hmm hi h
  have hdi : (d : Int) < 16 := by omega
  have hni : (n : Int) < 16 := by omega
  have hmi : (m : Int) < 16 := by omega
  have hlt := H.out.lt
  obtain ⟨wn, hwn⟩ : ∃ wn, wn = w.alloc (.cells #[.int .i64 10, .int .i64 d, .int .i64 n, .int .i64 m, .int .i64 imm, .int .i64 cond] 36) := ⟨_, rfl⟩
  obtain ⟨X, hX⟩ : ∃ X, X = w.heap.size := ⟨_, rfl⟩
  have kb : Blk wn X 36 #[.int .i64 10, .int .i64 d, .int .i64 n, .int .i64 m, .int .i64 imm, .int .i64 cond] := by rw [hwn, hX]; exact Blk.new _ _ _
  have HON : Hid (Only (fun k => k = p) w wn) := by rw [hwn]; exact (Only.refl _ _).alloc _
  have HSN : Hid (SpW wn p s) := H.out.only (S := fun _ => False) (by rw [hwn]; exact (Only.refl _ _).alloc _) id
  have tr : ∀ (k : Nat) (v : Value), w.cell? ⟨p, k, none⟩ = some v → wn.cell? ⟨p, k, none⟩ = some v := fun k v e => by
    rw [((by rw [hwn]; exact (Only.refl _ _).alloc _ : Only (fun _ => False) w wn)).cell (p := ⟨p, k, none⟩) hlt id]; exact e
  have pd := tr _ _ qd; have pn := tr _ _ qn; have pm := tr _ _ qm; have g2 := tr _ _ f2
  have b0 := kb.cell 0
  have b1 := kb.cell 1
  have b2 := kb.cell 2
  have b3 := kb.cell 3
  have b4 := kb.cell 4
  simp at b0 b1 b2 b3 b4
  go_enter Try.func36, Try.ntmps36
  go_wp2_with fail
  rw [← hwn, ← hX]
  clear hwn hX qd qn qm f2 r1 r2 r3 r4 r5 r6 tr hlt kb
  go_quiet (fail)
  obtain ⟨wq, hwq⟩ : ∃ wq, wq = wn.drewN nq := ⟨_, rfl⟩
  have HQ : Hid (SpW wq p s) := by rw [hwq]; exact HSN.out.only (S := fun _ => False) ((Only.refl _ _).drewN _) id
  have HOQ : Hid (Only (fun k => k = p) w wq) := by rw [hwq]; exact HON.out.drewN _
  have c0 : wq.cell? ⟨X, 0, none⟩ = some (.int .i64 10) := by rw [hwq]; exact b0
  have c2 : wq.cell? ⟨p, 18, none⟩ = some (.bool s.c.cf) := by rw [hwq]; exact g2
  rw [← hwq]
  clear hwq b0 b1 b2 b3 b4 pd pn pm g2
  go_wp2_with fail
  refine (HS.out _ HQ.out rd imm HRD.out HK.out).mono ?_
  rintro e w1 ⟨rfl, h1, o1⟩
  have H1 := Lib.hid h1
  have O1 := Lib.hid (HOQ.out.trans o1 (fun _ _ h => h))
  clear h1 o1 c0 c2
  go_wp2_with fail
  refine (HT.out _ H1.out).mono ?_
  rintro e w2 ⟨rfl, h2, o2⟩
  have H2 := Lib.hid h2
  have O2 := Lib.hid (O1.out.trans o2 (fun _ _ h => h))
  clear h2 o2
  go_wp2_with fail
  go_ret
  exact ⟨rfl, H2.out, O2.out⟩
set_option maxHeartbeats 4000000 in
set_option maxRecDepth 100000 in
theorem sums_11 (w : World) (p : Nat) (s : Sp) (h : SpW w p s) (hi : InsOk s.i) (hop : s.i.op = 11) (hk0 : 0 ≤ s.i.imm) (hk1 : s.i.imm ≤ 255) :
    Calls Try.prog 36 #[.pointer (some ⟨p, 0, none⟩)] w fun e w' => e = .returned (.bool true) ∧ SpW w' p ((s.sum s.rd (4294967295 - s.i.imm) true).setR s.i.d.toNat (sumX s.rd (4294967295 - s.i.imm) true)) ∧ Only (fun k => k = p) w w' := by
  obtain ⟨_, r1, r2, r3, r4, r5, r6, _⟩ := h.rest
  obtain ⟨_, _, f2, _⟩ := h.flags
  rw [hop] at r1
  have hdd : (s.i.d.toNat : Int) = s.i.d := by have := hi.d0; omega
  have hnn : (s.i.n.toNat : Int) = s.i.n := by have := hi.n0; omega
  have hmm : (s.i.m.toNat : Int) = s.i.m := by have := hi.m0; omega
  have hd1 : s.i.d.toNat < 16 := by have := hi.d1; have := hi.d0; omega
  have hn1 : s.i.n.toNat < 16 := by have := hi.n1; have := hi.n0; omega
  have hm1 : s.i.m.toNat < 16 := by have := hi.m1; have := hi.m0; omega
  have qd := h.reg hd1
  have qn := h.reg hn1
  have qm := h.reg hm1
  have HRD : Hid (U s.rd) := h.2.reg hd1
  have HRN : Hid (U s.rn) := h.2.reg hn1
  have HRM : Hid (U s.rm) := h.2.reg hm1
  have HK : Hid (U s.i.imm) := by show U _; unfold U; omega
  have H := Lib.hid h
  have HS := Lib.hid (fun (wq : World) (g : SpW wq p s) (a b : Int) (ha : U a) (hb : U b) => less_c wq p s g a b ha hb)
  have HZ : Hid (U 0) := by show U _; unfold U; omega
  have HT := Lib.hid (fun (wq : World) (g : SpW wq p (s.sum s.rd (4294967295 - s.i.imm) true)) => set_c wq p _ g s.i.d.toNat hdd.symm hd1 (sumX s.rd (4294967295 - s.i.imm) true) (sumX_U _ _ _))
  rw [← hdd] at r2
  rw [← hnn] at r3
  rw [← hmm] at r4
  change w.cell? _ = some (.int .u32 s.rd) at qd
  change w.cell? _ = some (.int .u32 s.rn) at qn
  change w.cell? _ = some (.int .u32 s.rm) at qm
  obtain ⟨rd1, rd2⟩ := HRD.out
  obtain ⟨rn1, rn2⟩ := HRN.out
  obtain ⟨rm1, rm2⟩ := HRM.out
  generalize s.rd = rd at *
  generalize s.rn = rn at *
  generalize s.rm = rm at *
  generalize s.i.imm = imm at *
  generalize s.i.d.toNat = d at *
  generalize s.i.n.toNat = n at *
  generalize s.i.m.toNat = m at *
  generalize s.i.cond = cond at *
  clear hop hdd hnn hmm hi h
  have hdi : (d : Int) < 16 := by omega
  have hni : (n : Int) < 16 := by omega
  have hmi : (m : Int) < 16 := by omega
  have hlt := H.out.lt
  obtain ⟨wn, hwn⟩ : ∃ wn, wn = w.alloc (.cells #[.int .i64 11, .int .i64 d, .int .i64 n, .int .i64 m, .int .i64 imm, .int .i64 cond] 36) := ⟨_, rfl⟩
  obtain ⟨X, hX⟩ : ∃ X, X = w.heap.size := ⟨_, rfl⟩
  have kb : Blk wn X 36 #[.int .i64 11, .int .i64 d, .int .i64 n, .int .i64 m, .int .i64 imm, .int .i64 cond] := by rw [hwn, hX]; exact Blk.new _ _ _
  have HON : Hid (Only (fun k => k = p) w wn) := by rw [hwn]; exact (Only.refl _ _).alloc _
  have HSN : Hid (SpW wn p s) := H.out.only (S := fun _ => False) (by rw [hwn]; exact (Only.refl _ _).alloc _) id
  have tr : ∀ (k : Nat) (v : Value), w.cell? ⟨p, k, none⟩ = some v → wn.cell? ⟨p, k, none⟩ = some v := fun k v e => by
    rw [((by rw [hwn]; exact (Only.refl _ _).alloc _ : Only (fun _ => False) w wn)).cell (p := ⟨p, k, none⟩) hlt id]; exact e
  have pd := tr _ _ qd; have pn := tr _ _ qn; have pm := tr _ _ qm; have g2 := tr _ _ f2
  have b0 := kb.cell 0
  have b1 := kb.cell 1
  have b2 := kb.cell 2
  have b3 := kb.cell 3
  have b4 := kb.cell 4
  simp at b0 b1 b2 b3 b4
  go_enter Try.func36, Try.ntmps36
  go_wp2_with fail
  rw [← hwn, ← hX]
  clear hwn hX qd qn qm f2 r1 r2 r3 r4 r5 r6 tr hlt kb
  go_quiet (fail)
  obtain ⟨wq, hwq⟩ : ∃ wq, wq = wn.drewN nq := ⟨_, rfl⟩
  have HQ : Hid (SpW wq p s) := by rw [hwq]; exact HSN.out.only (S := fun _ => False) ((Only.refl _ _).drewN _) id
  have HOQ : Hid (Only (fun k => k = p) w wq) := by rw [hwq]; exact HON.out.drewN _
  have c0 : wq.cell? ⟨X, 0, none⟩ = some (.int .i64 11) := by rw [hwq]; exact b0
  have c2 : wq.cell? ⟨p, 18, none⟩ = some (.bool s.c.cf) := by rw [hwq]; exact g2
  rw [← hwq]
  clear hwq b0 b1 b2 b3 b4 pd pn pm g2
  go_wp2_with fail
  refine (HS.out _ HQ.out rd imm HRD.out HK.out).mono ?_
  rintro e w1 ⟨rfl, h1, o1⟩
  have H1 := Lib.hid h1
  have O1 := Lib.hid (HOQ.out.trans o1 (fun _ _ h => h))
  clear h1 o1 c0 c2
  go_wp2_with fail
  refine (HT.out _ H1.out).mono ?_
  rintro e w2 ⟨rfl, h2, o2⟩
  have H2 := Lib.hid h2
  have O2 := Lib.hid (O1.out.trans o2 (fun _ _ h => h))
  clear h2 o2
  go_wp2_with fail
  go_ret
  exact ⟨rfl, H2.out, O2.out⟩
set_option maxHeartbeats 4000000 in
set_option maxRecDepth 100000 in
theorem sums_17 (w : World) (p : Nat) (s : Sp) (h : SpW w p s) (hi : InsOk s.i) (hop : s.i.op = 17) (hk0 : 0 ≤ s.i.imm) (hk1 : s.i.imm ≤ 255) :
    Calls Try.prog 36 #[.pointer (some ⟨p, 0, none⟩)] w fun e w' => e = .returned (.bool true) ∧ SpW w' p ((s.sum s.rd s.rm s.c.cf).setR s.i.d.toNat (sumX s.rd s.rm s.c.cf)) ∧ Only (fun k => k = p) w w' := by
  obtain ⟨_, r1, r2, r3, r4, r5, r6, _⟩ := h.rest
  obtain ⟨_, _, f2, _⟩ := h.flags
  rw [hop] at r1
  have hdd : (s.i.d.toNat : Int) = s.i.d := by have := hi.d0; omega
  have hnn : (s.i.n.toNat : Int) = s.i.n := by have := hi.n0; omega
  have hmm : (s.i.m.toNat : Int) = s.i.m := by have := hi.m0; omega
  have hd1 : s.i.d.toNat < 16 := by have := hi.d1; have := hi.d0; omega
  have hn1 : s.i.n.toNat < 16 := by have := hi.n1; have := hi.n0; omega
  have hm1 : s.i.m.toNat < 16 := by have := hi.m1; have := hi.m0; omega
  have qd := h.reg hd1
  have qn := h.reg hn1
  have qm := h.reg hm1
  have HRD : Hid (U s.rd) := h.2.reg hd1
  have HRN : Hid (U s.rn) := h.2.reg hn1
  have HRM : Hid (U s.rm) := h.2.reg hm1
  have HK : Hid (U s.i.imm) := by show U _; unfold U; omega
  have H := Lib.hid h
  have HS := Lib.hid (fun (wq : World) (g : SpW wq p s) (a b : Int) (ha : U a) (hb : U b) => sum_c wq p s g a b s.c.cf ha hb)
  have HZ : Hid (U 0) := by show U _; unfold U; omega
  have HT := Lib.hid (fun (wq : World) (g : SpW wq p (s.sum s.rd s.rm s.c.cf)) => set_c wq p _ g s.i.d.toNat hdd.symm hd1 (sumX s.rd s.rm s.c.cf) (sumX_U _ _ _))
  generalize s.c.cf = cf at *
  rw [← hdd] at r2
  rw [← hnn] at r3
  rw [← hmm] at r4
  change w.cell? _ = some (.int .u32 s.rd) at qd
  change w.cell? _ = some (.int .u32 s.rn) at qn
  change w.cell? _ = some (.int .u32 s.rm) at qm
  obtain ⟨rd1, rd2⟩ := HRD.out
  obtain ⟨rn1, rn2⟩ := HRN.out
  obtain ⟨rm1, rm2⟩ := HRM.out
  generalize s.rd = rd at *
  generalize s.rn = rn at *
  generalize s.rm = rm at *
  generalize s.i.imm = imm at *
  generalize s.i.d.toNat = d at *
  generalize s.i.n.toNat = n at *
  generalize s.i.m.toNat = m at *
  generalize s.i.cond = cond at *
  clear hop hdd hnn hmm hi h
  have hdi : (d : Int) < 16 := by omega
  have hni : (n : Int) < 16 := by omega
  have hmi : (m : Int) < 16 := by omega
  have hlt := H.out.lt
  obtain ⟨wn, hwn⟩ : ∃ wn, wn = w.alloc (.cells #[.int .i64 17, .int .i64 d, .int .i64 n, .int .i64 m, .int .i64 imm, .int .i64 cond] 36) := ⟨_, rfl⟩
  obtain ⟨X, hX⟩ : ∃ X, X = w.heap.size := ⟨_, rfl⟩
  have kb : Blk wn X 36 #[.int .i64 17, .int .i64 d, .int .i64 n, .int .i64 m, .int .i64 imm, .int .i64 cond] := by rw [hwn, hX]; exact Blk.new _ _ _
  have HON : Hid (Only (fun k => k = p) w wn) := by rw [hwn]; exact (Only.refl _ _).alloc _
  have HSN : Hid (SpW wn p s) := H.out.only (S := fun _ => False) (by rw [hwn]; exact (Only.refl _ _).alloc _) id
  have tr : ∀ (k : Nat) (v : Value), w.cell? ⟨p, k, none⟩ = some v → wn.cell? ⟨p, k, none⟩ = some v := fun k v e => by
    rw [((by rw [hwn]; exact (Only.refl _ _).alloc _ : Only (fun _ => False) w wn)).cell (p := ⟨p, k, none⟩) hlt id]; exact e
  have pd := tr _ _ qd; have pn := tr _ _ qn; have pm := tr _ _ qm; have g2 := tr _ _ f2
  have b0 := kb.cell 0
  have b1 := kb.cell 1
  have b2 := kb.cell 2
  have b3 := kb.cell 3
  have b4 := kb.cell 4
  simp at b0 b1 b2 b3 b4
  go_enter Try.func36, Try.ntmps36
  go_wp2_with fail
  rw [← hwn, ← hX]
  clear hwn hX qd qn qm f2 r1 r2 r3 r4 r5 r6 tr hlt kb
  go_quiet (fail)
  obtain ⟨wq, hwq⟩ : ∃ wq, wq = wn.drewN nq := ⟨_, rfl⟩
  have HQ : Hid (SpW wq p s) := by rw [hwq]; exact HSN.out.only (S := fun _ => False) ((Only.refl _ _).drewN _) id
  have HOQ : Hid (Only (fun k => k = p) w wq) := by rw [hwq]; exact HON.out.drewN _
  have c0 : wq.cell? ⟨X, 0, none⟩ = some (.int .i64 17) := by rw [hwq]; exact b0
  have c2 : wq.cell? ⟨p, 18, none⟩ = some (.bool cf) := by rw [hwq]; exact g2
  rw [← hwq]
  clear hwq b0 b1 b2 b3 b4 pd pn pm g2
  go_wp2_with fail
  refine (HS.out _ HQ.out rd rm HRD.out HRM.out).mono ?_
  rintro e w1 ⟨rfl, h1, o1⟩
  have H1 := Lib.hid h1
  have O1 := Lib.hid (HOQ.out.trans o1 (fun _ _ h => h))
  clear h1 o1 c0 c2
  go_wp2_with fail
  refine (HT.out _ H1.out).mono ?_
  rintro e w2 ⟨rfl, h2, o2⟩
  have H2 := Lib.hid h2
  have O2 := Lib.hid (O1.out.trans o2 (fun _ _ h => h))
  clear h2 o2
  go_wp2_with fail
  go_ret
  exact ⟨rfl, H2.out, O2.out⟩
set_option maxHeartbeats 4000000 in
set_option maxRecDepth 100000 in
theorem sums_18 (w : World) (p : Nat) (s : Sp) (h : SpW w p s) (hi : InsOk s.i) (hop : s.i.op = 18) (hk0 : 0 ≤ s.i.imm) (hk1 : s.i.imm ≤ 255) :
    Calls Try.prog 36 #[.pointer (some ⟨p, 0, none⟩)] w fun e w' => e = .returned (.bool true) ∧ SpW w' p ((s.sum s.rd (4294967295 - s.rm) s.c.cf).setR s.i.d.toNat (sumX s.rd (4294967295 - s.rm) s.c.cf)) ∧ Only (fun k => k = p) w w' := by
  obtain ⟨_, r1, r2, r3, r4, r5, r6, _⟩ := h.rest
  obtain ⟨_, _, f2, _⟩ := h.flags
  rw [hop] at r1
  have hdd : (s.i.d.toNat : Int) = s.i.d := by have := hi.d0; omega
  have hnn : (s.i.n.toNat : Int) = s.i.n := by have := hi.n0; omega
  have hmm : (s.i.m.toNat : Int) = s.i.m := by have := hi.m0; omega
  have hd1 : s.i.d.toNat < 16 := by have := hi.d1; have := hi.d0; omega
  have hn1 : s.i.n.toNat < 16 := by have := hi.n1; have := hi.n0; omega
  have hm1 : s.i.m.toNat < 16 := by have := hi.m1; have := hi.m0; omega
  have qd := h.reg hd1
  have qn := h.reg hn1
  have qm := h.reg hm1
  have HRD : Hid (U s.rd) := h.2.reg hd1
  have HRN : Hid (U s.rn) := h.2.reg hn1
  have HRM : Hid (U s.rm) := h.2.reg hm1
  have HK : Hid (U s.i.imm) := by show U _; unfold U; omega
  have H := Lib.hid h
  have HS := Lib.hid (fun (wq : World) (g : SpW wq p s) (a b : Int) (ha : U a) (hb : U b) => sum_c wq p s g a b s.c.cf ha hb)
  have HZ : Hid (U 0) := by show U _; unfold U; omega
  have HT := Lib.hid (fun (wq : World) (g : SpW wq p (s.sum s.rd (4294967295 - s.rm) s.c.cf)) => set_c wq p _ g s.i.d.toNat hdd.symm hd1 (sumX s.rd (4294967295 - s.rm) s.c.cf) (sumX_U _ _ _))
  have HX := Lib.hid (xor_max s.rm HRM.out)
  generalize s.c.cf = cf at *
  rw [← hdd] at r2
  rw [← hnn] at r3
  rw [← hmm] at r4
  change w.cell? _ = some (.int .u32 s.rd) at qd
  change w.cell? _ = some (.int .u32 s.rn) at qn
  change w.cell? _ = some (.int .u32 s.rm) at qm
  obtain ⟨rd1, rd2⟩ := HRD.out
  obtain ⟨rn1, rn2⟩ := HRN.out
  obtain ⟨rm1, rm2⟩ := HRM.out
  generalize s.rd = rd at *
  generalize s.rn = rn at *
  generalize s.rm = rm at *
  generalize s.i.imm = imm at *
  generalize s.i.d.toNat = d at *
  generalize s.i.n.toNat = n at *
  generalize s.i.m.toNat = m at *
  generalize s.i.cond = cond at *
  clear hop hdd hnn hmm hi h
  have hdi : (d : Int) < 16 := by omega
  have hni : (n : Int) < 16 := by omega
  have hmi : (m : Int) < 16 := by omega
  have hlt := H.out.lt
  obtain ⟨wn, hwn⟩ : ∃ wn, wn = w.alloc (.cells #[.int .i64 18, .int .i64 d, .int .i64 n, .int .i64 m, .int .i64 imm, .int .i64 cond] 36) := ⟨_, rfl⟩
  obtain ⟨X, hX⟩ : ∃ X, X = w.heap.size := ⟨_, rfl⟩
  have kb : Blk wn X 36 #[.int .i64 18, .int .i64 d, .int .i64 n, .int .i64 m, .int .i64 imm, .int .i64 cond] := by rw [hwn, hX]; exact Blk.new _ _ _
  have HON : Hid (Only (fun k => k = p) w wn) := by rw [hwn]; exact (Only.refl _ _).alloc _
  have HSN : Hid (SpW wn p s) := H.out.only (S := fun _ => False) (by rw [hwn]; exact (Only.refl _ _).alloc _) id
  have tr : ∀ (k : Nat) (v : Value), w.cell? ⟨p, k, none⟩ = some v → wn.cell? ⟨p, k, none⟩ = some v := fun k v e => by
    rw [((by rw [hwn]; exact (Only.refl _ _).alloc _ : Only (fun _ => False) w wn)).cell (p := ⟨p, k, none⟩) hlt id]; exact e
  have pd := tr _ _ qd; have pn := tr _ _ qn; have pm := tr _ _ qm; have g2 := tr _ _ f2
  have b0 := kb.cell 0
  have b1 := kb.cell 1
  have b2 := kb.cell 2
  have b3 := kb.cell 3
  have b4 := kb.cell 4
  simp at b0 b1 b2 b3 b4
  go_enter Try.func36, Try.ntmps36
  go_wp2_with fail
  rw [← hwn, ← hX]
  clear hwn hX qd qn qm f2 r1 r2 r3 r4 r5 r6 tr hlt kb
  go_quiet (fail)
  obtain ⟨wq, hwq⟩ : ∃ wq, wq = wn.drewN nq := ⟨_, rfl⟩
  have HQ : Hid (SpW wq p s) := by rw [hwq]; exact HSN.out.only (S := fun _ => False) ((Only.refl _ _).drewN _) id
  have HOQ : Hid (Only (fun k => k = p) w wq) := by rw [hwq]; exact HON.out.drewN _
  have c0 : wq.cell? ⟨X, 0, none⟩ = some (.int .i64 18) := by rw [hwq]; exact b0
  have c2 : wq.cell? ⟨p, 18, none⟩ = some (.bool cf) := by rw [hwq]; exact g2
  rw [← hwq]
  clear hwq b0 b1 b2 b3 b4 pd pn pm g2
  have hx := HX.out
  go_wp2_with fail
  refine (HS.out _ HQ.out rd (4294967295 - rm) HRD.out HRM.out.neg).mono ?_
  rintro e w1 ⟨rfl, h1, o1⟩
  have H1 := Lib.hid h1
  have O1 := Lib.hid (HOQ.out.trans o1 (fun _ _ h => h))
  clear h1 o1 c0 c2
  go_wp2_with fail
  refine (HT.out _ H1.out).mono ?_
  rintro e w2 ⟨rfl, h2, o2⟩
  have H2 := Lib.hid h2
  have O2 := Lib.hid (O1.out.trans o2 (fun _ _ h => h))
  clear h2 o2
  go_wp2_with fail
  go_ret
  exact ⟨rfl, H2.out, O2.out⟩
set_option maxHeartbeats 4000000 in
set_option maxRecDepth 100000 in
theorem sums_21 (w : World) (p : Nat) (s : Sp) (h : SpW w p s) (hi : InsOk s.i) (hop : s.i.op = 21) (hk0 : 0 ≤ s.i.imm) (hk1 : s.i.imm ≤ 255) :
    Calls Try.prog 36 #[.pointer (some ⟨p, 0, none⟩)] w fun e w' => e = .returned (.bool true) ∧ SpW w' p ((s.sum 0 (4294967295 - s.rm) true).setR s.i.d.toNat (sumX 0 (4294967295 - s.rm) true)) ∧ Only (fun k => k = p) w w' := by
  obtain ⟨_, r1, r2, r3, r4, r5, r6, _⟩ := h.rest
  obtain ⟨_, _, f2, _⟩ := h.flags
  rw [hop] at r1
  have hdd : (s.i.d.toNat : Int) = s.i.d := by have := hi.d0; omega
  have hnn : (s.i.n.toNat : Int) = s.i.n := by have := hi.n0; omega
  have hmm : (s.i.m.toNat : Int) = s.i.m := by have := hi.m0; omega
  have hd1 : s.i.d.toNat < 16 := by have := hi.d1; have := hi.d0; omega
  have hn1 : s.i.n.toNat < 16 := by have := hi.n1; have := hi.n0; omega
  have hm1 : s.i.m.toNat < 16 := by have := hi.m1; have := hi.m0; omega
  have qd := h.reg hd1
  have qn := h.reg hn1
  have qm := h.reg hm1
  have HRD : Hid (U s.rd) := h.2.reg hd1
  have HRN : Hid (U s.rn) := h.2.reg hn1
  have HRM : Hid (U s.rm) := h.2.reg hm1
  have HK : Hid (U s.i.imm) := by show U _; unfold U; omega
  have H := Lib.hid h
  have HS := Lib.hid (fun (wq : World) (g : SpW wq p s) (a b : Int) (ha : U a) (hb : U b) => less_c wq p s g a b ha hb)
  have HZ : Hid (U 0) := by show U _; unfold U; omega
  have HT := Lib.hid (fun (wq : World) (g : SpW wq p (s.sum 0 (4294967295 - s.rm) true)) => set_c wq p _ g s.i.d.toNat hdd.symm hd1 (sumX 0 (4294967295 - s.rm) true) (sumX_U _ _ _))
  rw [← hdd] at r2
  rw [← hnn] at r3
  rw [← hmm] at r4
  change w.cell? _ = some (.int .u32 s.rd) at qd
  change w.cell? _ = some (.int .u32 s.rn) at qn
  change w.cell? _ = some (.int .u32 s.rm) at qm
  obtain ⟨rd1, rd2⟩ := HRD.out
  obtain ⟨rn1, rn2⟩ := HRN.out
  obtain ⟨rm1, rm2⟩ := HRM.out
  generalize s.rd = rd at *
  generalize s.rn = rn at *
  generalize s.rm = rm at *
  generalize s.i.imm = imm at *
  generalize s.i.d.toNat = d at *
  generalize s.i.n.toNat = n at *
  generalize s.i.m.toNat = m at *
  generalize s.i.cond = cond at *
  clear hop hdd hnn hmm hi h
  have hdi : (d : Int) < 16 := by omega
  have hni : (n : Int) < 16 := by omega
  have hmi : (m : Int) < 16 := by omega
  have hlt := H.out.lt
  obtain ⟨wn, hwn⟩ : ∃ wn, wn = w.alloc (.cells #[.int .i64 21, .int .i64 d, .int .i64 n, .int .i64 m, .int .i64 imm, .int .i64 cond] 36) := ⟨_, rfl⟩
  obtain ⟨X, hX⟩ : ∃ X, X = w.heap.size := ⟨_, rfl⟩
  have kb : Blk wn X 36 #[.int .i64 21, .int .i64 d, .int .i64 n, .int .i64 m, .int .i64 imm, .int .i64 cond] := by rw [hwn, hX]; exact Blk.new _ _ _
  have HON : Hid (Only (fun k => k = p) w wn) := by rw [hwn]; exact (Only.refl _ _).alloc _
  have HSN : Hid (SpW wn p s) := H.out.only (S := fun _ => False) (by rw [hwn]; exact (Only.refl _ _).alloc _) id
  have tr : ∀ (k : Nat) (v : Value), w.cell? ⟨p, k, none⟩ = some v → wn.cell? ⟨p, k, none⟩ = some v := fun k v e => by
    rw [((by rw [hwn]; exact (Only.refl _ _).alloc _ : Only (fun _ => False) w wn)).cell (p := ⟨p, k, none⟩) hlt id]; exact e
  have pd := tr _ _ qd; have pn := tr _ _ qn; have pm := tr _ _ qm; have g2 := tr _ _ f2
  have b0 := kb.cell 0
  have b1 := kb.cell 1
  have b2 := kb.cell 2
  have b3 := kb.cell 3
  have b4 := kb.cell 4
  simp at b0 b1 b2 b3 b4
  go_enter Try.func36, Try.ntmps36
  go_wp2_with fail
  rw [← hwn, ← hX]
  clear hwn hX qd qn qm f2 r1 r2 r3 r4 r5 r6 tr hlt kb
  go_quiet (fail)
  obtain ⟨wq, hwq⟩ : ∃ wq, wq = wn.drewN nq := ⟨_, rfl⟩
  have HQ : Hid (SpW wq p s) := by rw [hwq]; exact HSN.out.only (S := fun _ => False) ((Only.refl _ _).drewN _) id
  have HOQ : Hid (Only (fun k => k = p) w wq) := by rw [hwq]; exact HON.out.drewN _
  have c0 : wq.cell? ⟨X, 0, none⟩ = some (.int .i64 21) := by rw [hwq]; exact b0
  have c2 : wq.cell? ⟨p, 18, none⟩ = some (.bool s.c.cf) := by rw [hwq]; exact g2
  rw [← hwq]
  clear hwq b0 b1 b2 b3 b4 pd pn pm g2
  go_wp2_with fail
  refine (HS.out _ HQ.out 0 rm HZ.out HRM.out).mono ?_
  rintro e w1 ⟨rfl, h1, o1⟩
  have H1 := Lib.hid h1
  have O1 := Lib.hid (HOQ.out.trans o1 (fun _ _ h => h))
  clear h1 o1 c0 c2
  go_wp2_with fail
  refine (HT.out _ H1.out).mono ?_
  rintro e w2 ⟨rfl, h2, o2⟩
  have H2 := Lib.hid h2
  have O2 := Lib.hid (O1.out.trans o2 (fun _ _ h => h))
  clear h2 o2
  go_wp2_with fail
  go_ret
  exact ⟨rfl, H2.out, O2.out⟩
set_option maxHeartbeats 4000000 in
set_option maxRecDepth 100000 in
theorem sums_22 (w : World) (p : Nat) (s : Sp) (h : SpW w p s) (hi : InsOk s.i) (hop : s.i.op = 22) (hk0 : 0 ≤ s.i.imm) (hk1 : s.i.imm ≤ 255) :
    Calls Try.prog 36 #[.pointer (some ⟨p, 0, none⟩)] w fun e w' => e = .returned (.bool true) ∧ SpW w' p (s.sum s.rd (4294967295 - s.rm) true) ∧ Only (fun k => k = p) w w' := by
  obtain ⟨_, r1, r2, r3, r4, r5, r6, _⟩ := h.rest
  obtain ⟨_, _, f2, _⟩ := h.flags
  rw [hop] at r1
  have hdd : (s.i.d.toNat : Int) = s.i.d := by have := hi.d0; omega
  have hnn : (s.i.n.toNat : Int) = s.i.n := by have := hi.n0; omega
  have hmm : (s.i.m.toNat : Int) = s.i.m := by have := hi.m0; omega
  have hd1 : s.i.d.toNat < 16 := by have := hi.d1; have := hi.d0; omega
  have hn1 : s.i.n.toNat < 16 := by have := hi.n1; have := hi.n0; omega
  have hm1 : s.i.m.toNat < 16 := by have := hi.m1; have := hi.m0; omega
  have qd := h.reg hd1
  have qn := h.reg hn1
  have qm := h.reg hm1
  have HRD : Hid (U s.rd) := h.2.reg hd1
  have HRN : Hid (U s.rn) := h.2.reg hn1
  have HRM : Hid (U s.rm) := h.2.reg hm1
  have HK : Hid (U s.i.imm) := by show U _; unfold U; omega
  have H := Lib.hid h
  have HS := Lib.hid (fun (wq : World) (g : SpW wq p s) (a b : Int) (ha : U a) (hb : U b) => less_c wq p s g a b ha hb)
  have HZ : Hid (U 0) := by show U _; unfold U; omega
  rw [← hdd] at r2
  rw [← hnn] at r3
  rw [← hmm] at r4
  change w.cell? _ = some (.int .u32 s.rd) at qd
  change w.cell? _ = some (.int .u32 s.rn) at qn
  change w.cell? _ = some (.int .u32 s.rm) at qm
  obtain ⟨rd1, rd2⟩ := HRD.out
  obtain ⟨rn1, rn2⟩ := HRN.out
  obtain ⟨rm1, rm2⟩ := HRM.out
  generalize s.rd = rd at *
  generalize s.rn = rn at *
  generalize s.rm = rm at *
  generalize s.i.imm = imm at *
  generalize s.i.d.toNat = d at *
  generalize s.i.n.toNat = n at *
  generalize s.i.m.toNat = m at *
  generalize s.i.cond = cond at *
  clear hop hdd hnn hmm hi h
  have hdi : (d : Int) < 16 := by omega
  have hni : (n : Int) < 16 := by omega
  have hmi : (m : Int) < 16 := by omega
  have hlt := H.out.lt
  obtain ⟨wn, hwn⟩ : ∃ wn, wn = w.alloc (.cells #[.int .i64 22, .int .i64 d, .int .i64 n, .int .i64 m, .int .i64 imm, .int .i64 cond] 36) := ⟨_, rfl⟩
  obtain ⟨X, hX⟩ : ∃ X, X = w.heap.size := ⟨_, rfl⟩
  have kb : Blk wn X 36 #[.int .i64 22, .int .i64 d, .int .i64 n, .int .i64 m, .int .i64 imm, .int .i64 cond] := by rw [hwn, hX]; exact Blk.new _ _ _
  have HON : Hid (Only (fun k => k = p) w wn) := by rw [hwn]; exact (Only.refl _ _).alloc _
  have HSN : Hid (SpW wn p s) := H.out.only (S := fun _ => False) (by rw [hwn]; exact (Only.refl _ _).alloc _) id
  have tr : ∀ (k : Nat) (v : Value), w.cell? ⟨p, k, none⟩ = some v → wn.cell? ⟨p, k, none⟩ = some v := fun k v e => by
    rw [((by rw [hwn]; exact (Only.refl _ _).alloc _ : Only (fun _ => False) w wn)).cell (p := ⟨p, k, none⟩) hlt id]; exact e
  have pd := tr _ _ qd; have pn := tr _ _ qn; have pm := tr _ _ qm; have g2 := tr _ _ f2
  have b0 := kb.cell 0
  have b1 := kb.cell 1
  have b2 := kb.cell 2
  have b3 := kb.cell 3
  have b4 := kb.cell 4
  simp at b0 b1 b2 b3 b4
  go_enter Try.func36, Try.ntmps36
  go_wp2_with fail
  rw [← hwn, ← hX]
  clear hwn hX qd qn qm f2 r1 r2 r3 r4 r5 r6 tr hlt kb
  go_quiet (fail)
  obtain ⟨wq, hwq⟩ : ∃ wq, wq = wn.drewN nq := ⟨_, rfl⟩
  have HQ : Hid (SpW wq p s) := by rw [hwq]; exact HSN.out.only (S := fun _ => False) ((Only.refl _ _).drewN _) id
  have HOQ : Hid (Only (fun k => k = p) w wq) := by rw [hwq]; exact HON.out.drewN _
  have c0 : wq.cell? ⟨X, 0, none⟩ = some (.int .i64 22) := by rw [hwq]; exact b0
  have c2 : wq.cell? ⟨p, 18, none⟩ = some (.bool s.c.cf) := by rw [hwq]; exact g2
  rw [← hwq]
  clear hwq b0 b1 b2 b3 b4 pd pn pm g2
  go_wp2_with fail
  refine (HS.out _ HQ.out rd rm HRD.out HRM.out).mono ?_
  rintro e w1 ⟨rfl, h1, o1⟩
  have H1 := Lib.hid h1
  have O1 := Lib.hid (HOQ.out.trans o1 (fun _ _ h => h))
  clear h1 o1 c0 c2
  go_wp2_with fail
  go_ret
  exact ⟨rfl, H1.out, O1.out⟩
set_option maxHeartbeats 4000000 in
set_option maxRecDepth 100000 in
theorem sums_23 (w : World) (p : Nat) (s : Sp) (h : SpW w p s) (hi : InsOk s.i) (hop : s.i.op = 23) (hk0 : 0 ≤ s.i.imm) (hk1 : s.i.imm ≤ 255) :
    Calls Try.prog 36 #[.pointer (some ⟨p, 0, none⟩)] w fun e w' => e = .returned (.bool true) ∧ SpW w' p (s.sum s.rd s.rm false) ∧ Only (fun k => k = p) w w' := by
  obtain ⟨_, r1, r2, r3, r4, r5, r6, _⟩ := h.rest
  obtain ⟨_, _, f2, _⟩ := h.flags
  rw [hop] at r1
  have hdd : (s.i.d.toNat : Int) = s.i.d := by have := hi.d0; omega
  have hnn : (s.i.n.toNat : Int) = s.i.n := by have := hi.n0; omega
  have hmm : (s.i.m.toNat : Int) = s.i.m := by have := hi.m0; omega
  have hd1 : s.i.d.toNat < 16 := by have := hi.d1; have := hi.d0; omega
  have hn1 : s.i.n.toNat < 16 := by have := hi.n1; have := hi.n0; omega
  have hm1 : s.i.m.toNat < 16 := by have := hi.m1; have := hi.m0; omega
  have qd := h.reg hd1
  have qn := h.reg hn1
  have qm := h.reg hm1
  have HRD : Hid (U s.rd) := h.2.reg hd1
  have HRN : Hid (U s.rn) := h.2.reg hn1
  have HRM : Hid (U s.rm) := h.2.reg hm1
  have HK : Hid (U s.i.imm) := by show U _; unfold U; omega
  have H := Lib.hid h
  have HS := Lib.hid (fun (wq : World) (g : SpW wq p s) (a b : Int) (ha : U a) (hb : U b) => sum_c wq p s g a b false ha hb)
  have HZ : Hid (U 0) := by show U _; unfold U; omega
  rw [← hdd] at r2
  rw [← hnn] at r3
  rw [← hmm] at r4
  change w.cell? _ = some (.int .u32 s.rd) at qd
  change w.cell? _ = some (.int .u32 s.rn) at qn
  change w.cell? _ = some (.int .u32 s.rm) at qm
  obtain ⟨rd1, rd2⟩ := HRD.out
  obtain ⟨rn1, rn2⟩ := HRN.out
  obtain ⟨rm1, rm2⟩ := HRM.out
  generalize s.rd = rd at *
  generalize s.rn = rn at *
  generalize s.rm = rm at *
  generalize s.i.imm = imm at *
  generalize s.i.d.toNat = d at *
  generalize s.i.n.toNat = n at *
  generalize s.i.m.toNat = m at *
  generalize s.i.cond = cond at *
  clear hop hdd hnn hmm hi h
  have hdi : (d : Int) < 16 := by omega
  have hni : (n : Int) < 16 := by omega
  have hmi : (m : Int) < 16 := by omega
  have hlt := H.out.lt
  obtain ⟨wn, hwn⟩ : ∃ wn, wn = w.alloc (.cells #[.int .i64 23, .int .i64 d, .int .i64 n, .int .i64 m, .int .i64 imm, .int .i64 cond] 36) := ⟨_, rfl⟩
  obtain ⟨X, hX⟩ : ∃ X, X = w.heap.size := ⟨_, rfl⟩
  have kb : Blk wn X 36 #[.int .i64 23, .int .i64 d, .int .i64 n, .int .i64 m, .int .i64 imm, .int .i64 cond] := by rw [hwn, hX]; exact Blk.new _ _ _
  have HON : Hid (Only (fun k => k = p) w wn) := by rw [hwn]; exact (Only.refl _ _).alloc _
  have HSN : Hid (SpW wn p s) := H.out.only (S := fun _ => False) (by rw [hwn]; exact (Only.refl _ _).alloc _) id
  have tr : ∀ (k : Nat) (v : Value), w.cell? ⟨p, k, none⟩ = some v → wn.cell? ⟨p, k, none⟩ = some v := fun k v e => by
    rw [((by rw [hwn]; exact (Only.refl _ _).alloc _ : Only (fun _ => False) w wn)).cell (p := ⟨p, k, none⟩) hlt id]; exact e
  have pd := tr _ _ qd; have pn := tr _ _ qn; have pm := tr _ _ qm; have g2 := tr _ _ f2
  have b0 := kb.cell 0
  have b1 := kb.cell 1
  have b2 := kb.cell 2
  have b3 := kb.cell 3
  have b4 := kb.cell 4
  simp at b0 b1 b2 b3 b4
  go_enter Try.func36, Try.ntmps36
  go_wp2_with fail
  rw [← hwn, ← hX]
  clear hwn hX qd qn qm f2 r1 r2 r3 r4 r5 r6 tr hlt kb
  go_quiet (fail)
  obtain ⟨wq, hwq⟩ : ∃ wq, wq = wn.drewN nq := ⟨_, rfl⟩
  have HQ : Hid (SpW wq p s) := by rw [hwq]; exact HSN.out.only (S := fun _ => False) ((Only.refl _ _).drewN _) id
  have HOQ : Hid (Only (fun k => k = p) w wq) := by rw [hwq]; exact HON.out.drewN _
  have c0 : wq.cell? ⟨X, 0, none⟩ = some (.int .i64 23) := by rw [hwq]; exact b0
  have c2 : wq.cell? ⟨p, 18, none⟩ = some (.bool s.c.cf) := by rw [hwq]; exact g2
  rw [← hwq]
  clear hwq b0 b1 b2 b3 b4 pd pn pm g2
  go_wp2_with fail
  refine (HS.out _ HQ.out rd rm HRD.out HRM.out).mono ?_
  rintro e w1 ⟨rfl, h1, o1⟩
  have H1 := Lib.hid h1
  have O1 := Lib.hid (HOQ.out.trans o1 (fun _ _ h => h))
  clear h1 o1 c0 c2
  go_wp2_with fail
  go_ret
  exact ⟨rfl, H1.out, O1.out⟩
end Go.Proofs.Ytpihjhfaeloapaa
