/- MERGED by mergech.py: XCm XCr. -/
import Derived.Test.YtpihjhfaeloapaaCb
import Derived.Test.YtpihjhfaeloapaaVj
import Derived.StillTailTactics
namespace Go.Proofs.Ytpihjhfaeloapaa
open Go.RowKit On Th
/-- the address that a load, or a store, touches -/
def Sp.addr (s : Sp) : Int :=
  if s.i.op = 29 ∨ s.i.op = 30 then (s.rn + s.rm) % 4294967296
  else if s.i.op = 35 ∨ s.i.op = 36 then (s.c.R.getD 13 0 + s.i.imm) % 4294967296
  else (s.rn + s.i.imm) % 4294967296
set_option maxHeartbeats 4000000 in
set_option maxRecDepth 100000 in
theorem addr_29 (w : World) (p : Nat) (s : Sp) (h : SpW w p s) (hi : InsOk s.i) (hop : s.i.op = 29)  :
    Calls Try.prog 59 #[.pointer (some ⟨p, 0, none⟩)] w fun e w' => e = .returned (.int .u32 s.addr) ∧ SpW w' p s ∧ Only (fun k => k = p) w w' := by
  obtain ⟨_, r1, r2, r3, r4, r5, r6, _⟩ := h.rest
  obtain ⟨_, _, f2, _⟩ := h.flags
  rw [hop] at r1
  have hdd : (s.i.d.toNat : Int) = s.i.d := by have := hi.d0; omega
  have hnn : (s.i.n.toNat : Int) = s.i.n := by have := hi.n0; omega
  have hmm : (s.i.m.toNat : Int) = s.i.m := by have := hi.m0; omega
  have hd1 : s.i.d.toNat < 16 := by have := hi.d1; have := hi.d0; omega
  have hn1 : s.i.n.toNat < 16 := by have := hi.n1; have := hi.n0; omega
  have hm1 : s.i.m.toNat < 16 := by have := hi.m1; have := hi.m0; omega
  have qd := h.reg hd1
  have qn := h.reg hn1
  have qm := h.reg hm1
  have HRD : Hid (U s.rd) := h.2.reg hd1
  have HRN : Hid (U s.rn) := h.2.reg hn1
  have HRM : Hid (U s.rm) := h.2.reg hm1
  have H := Lib.hid h
  have q13 := h.reg (k := 13) (by omega)
  have HR13 : Hid (U (s.c.R.getD 13 0)) := h.2.reg (by omega)
  generalize hr13 : s.c.R.getD 13 0 = r13 at *
  have HR13' := Lib.hid hr13
  clear hr13
  have ha : s.addr = (s.rn + s.rm) % 4294967296 := by unfold Sp.addr; rw [hop]; rfl
  rw [ha]
  clear ha hop
  rw [← hdd] at r2
  rw [← hnn] at r3
  rw [← hmm] at r4
  change w.cell? _ = some (.int .u32 s.rd) at qd
  change w.cell? _ = some (.int .u32 s.rn) at qn
  change w.cell? _ = some (.int .u32 s.rm) at qm
  obtain ⟨rd1, rd2⟩ := HRD.out
  obtain ⟨rn1, rn2⟩ := HRN.out
  obtain ⟨rm1, rm2⟩ := HRM.out
  generalize s.rd = rd at *
  generalize s.rn = rn at *
  generalize s.rm = rm at *
  generalize s.i.imm = imm at *
  generalize s.i.d.toNat = d at *
  generalize s.i.n.toNat = n at *
  generalize s.i.m.toNat = m at *
  generalize s.i.cond = cond at *
  clear hdd hnn hmm hi h
  have hdi : (d : Int) < 16 := by omega
  have hni : (n : Int) < 16 := by omega
  have hmi : (m : Int) < 16 := by omega
  have hlt := H.out.lt
  obtain ⟨wn, hwn⟩ : ∃ wn, wn = w.alloc (.cells #[.int .i64 29, .int .i64 d, .int .i64 n, .int .i64 m, .int .i64 imm, .int .i64 cond] 36) := ⟨_, rfl⟩
  obtain ⟨X, hX⟩ : ∃ X, X = w.heap.size := ⟨_, rfl⟩
  have kb : Blk wn X 36 #[.int .i64 29, .int .i64 d, .int .i64 n, .int .i64 m, .int .i64 imm, .int .i64 cond] := by rw [hwn, hX]; exact Blk.new _ _ _
  have HON : Hid (Only (fun k => k = p) w wn) := by rw [hwn]; exact (Only.refl _ _).alloc _
  have HSN : Hid (SpW wn p s) := H.out.only (S := fun _ => False) (by rw [hwn]; exact (Only.refl _ _).alloc _) id
  have tr : ∀ (k : Nat) (v : Value), w.cell? ⟨p, k, none⟩ = some v → wn.cell? ⟨p, k, none⟩ = some v := fun k v e => by
    rw [((by rw [hwn]; exact (Only.refl _ _).alloc _ : Only (fun _ => False) w wn)).cell (p := ⟨p, k, none⟩) hlt id]; exact e
  have pd := tr _ _ qd; have pn := tr _ _ qn; have pm := tr _ _ qm
  have b0 := kb.cell 0
  have b1 := kb.cell 1
  have b2 := kb.cell 2
  have b3 := kb.cell 3
  have b4 := kb.cell 4
  simp at b0 b1 b2 b3 b4
  have p13 := tr _ _ q13
  obtain ⟨u1, u2⟩ := HR13.out
  go_enter Try.func59, Try.ntmps59
  go_wp2_with fail
  rw [← hwn, ← hX]
  clear hwn hX qd qn qm q13 f2 r1 r2 r3 r4 r5 r6 tr hlt kb
  go_quiet (fail)
  go_wp2_with fail
  go_ret
  exact ⟨rfl, HSN.out.only (S := fun _ => False) ((Only.refl _ _).drewN _) id, HON.out.drewN _⟩
set_option maxHeartbeats 4000000 in
set_option maxRecDepth 100000 in
theorem addr_30 (w : World) (p : Nat) (s : Sp) (h : SpW w p s) (hi : InsOk s.i) (hop : s.i.op = 30)  :
    Calls Try.prog 59 #[.pointer (some ⟨p, 0, none⟩)] w fun e w' => e = .returned (.int .u32 s.addr) ∧ SpW w' p s ∧ Only (fun k => k = p) w w' := by
  obtain ⟨_, r1, r2, r3, r4, r5, r6, _⟩ := h.rest
  obtain ⟨_, _, f2, _⟩ := h.flags
  rw [hop] at r1
  have hdd : (s.i.d.toNat : Int) = s.i.d := by have := hi.d0; omega
  have hnn : (s.i.n.toNat : Int) = s.i.n := by have := hi.n0; omega
  have hmm : (s.i.m.toNat : Int) = s.i.m := by have := hi.m0; omega
  have hd1 : s.i.d.toNat < 16 := by have := hi.d1; have := hi.d0; omega
  have hn1 : s.i.n.toNat < 16 := by have := hi.n1; have := hi.n0; omega
  have hm1 : s.i.m.toNat < 16 := by have := hi.m1; have := hi.m0; omega
  have qd := h.reg hd1
  have qn := h.reg hn1
  have qm := h.reg hm1
  have HRD : Hid (U s.rd) := h.2.reg hd1
  have HRN : Hid (U s.rn) := h.2.reg hn1
  have HRM : Hid (U s.rm) := h.2.reg hm1
  have H := Lib.hid h
  have q13 := h.reg (k := 13) (by omega)
  have HR13 : Hid (U (s.c.R.getD 13 0)) := h.2.reg (by omega)
  generalize hr13 : s.c.R.getD 13 0 = r13 at *
  have HR13' := Lib.hid hr13
  clear hr13
  have ha : s.addr = (s.rn + s.rm) % 4294967296 := by unfold Sp.addr; rw [hop]; rfl
  rw [ha]
  clear ha hop
  rw [← hdd] at r2
  rw [← hnn] at r3
  rw [← hmm] at r4
  change w.cell? _ = some (.int .u32 s.rd) at qd
  change w.cell? _ = some (.int .u32 s.rn) at qn
  change w.cell? _ = some (.int .u32 s.rm) at qm
  obtain ⟨rd1, rd2⟩ := HRD.out
  obtain ⟨rn1, rn2⟩ := HRN.out
  obtain ⟨rm1, rm2⟩ := HRM.out
  generalize s.rd = rd at *
  generalize s.rn = rn at *
  generalize s.rm = rm at *
  generalize s.i.imm = imm at *
  generalize s.i.d.toNat = d at *
  generalize s.i.n.toNat = n at *
  generalize s.i.m.toNat = m at *
  generalize s.i.cond = cond at *
  clear hdd hnn hmm hi h
  have hdi : (d : Int) < 16 := by omega
  have hni : (n : Int) < 16 := by omega
  have hmi : (m : Int) < 16 := by omega
  have hlt := H.out.lt
  obtain ⟨wn, hwn⟩ : ∃ wn, wn = w.alloc (.cells #[.int .i64 30, .int .i64 d, .int .i64 n, .int .i64 m, .int .i64 imm, .int .i64 cond] 36) := ⟨_, rfl⟩
  obtain ⟨X, hX⟩ : ∃ X, X = w.heap.size := ⟨_, rfl⟩
  have kb : Blk wn X 36 #[.int .i64 30, .int .i64 d, .int .i64 n, .int .i64 m, .int .i64 imm, .int .i64 cond] := by rw [hwn, hX]; exact Blk.new _ _ _
  have HON : Hid (Only (fun k => k = p) w wn) := by rw [hwn]; exact (Only.refl _ _).alloc _
  have HSN : Hid (SpW wn p s) := H.out.only (S := fun _ => False) (by rw [hwn]; exact (Only.refl _ _).alloc _) id
  have tr : ∀ (k : Nat) (v : Value), w.cell? ⟨p, k, none⟩ = some v → wn.cell? ⟨p, k, none⟩ = some v := fun k v e => by
    rw [((by rw [hwn]; exact (Only.refl _ _).alloc _ : Only (fun _ => False) w wn)).cell (p := ⟨p, k, none⟩) hlt id]; exact e
  have pd := tr _ _ qd; have pn := tr _ _ qn; have pm := tr _ _ qm
  have b0 := kb.cell 0
  have b1 := kb.cell 1
  have b2 := kb.cell 2
  have b3 := kb.cell 3
  have b4 := kb.cell 4
  simp at b0 b1 b2 b3 b4
  have p13 := tr _ _ q13
  obtain ⟨u1, u2⟩ := HR13.out
  go_enter Try.func59, Try.ntmps59
  go_wp2_with fail
  rw [← hwn, ← hX]
  clear hwn hX qd qn qm q13 f2 r1 r2 r3 r4 r5 r6 tr hlt kb
  go_quiet (fail)
  go_wp2_with fail
  go_ret
  exact ⟨rfl, HSN.out.only (S := fun _ => False) ((Only.refl _ _).drewN _) id, HON.out.drewN _⟩
set_option maxHeartbeats 4000000 in
set_option maxRecDepth 100000 in
theorem addr_31 (w : World) (p : Nat) (s : Sp) (h : SpW w p s) (hi : InsOk s.i) (hop : s.i.op = 31) (hk0 : 0 ≤ s.i.imm) (hk1 : s.i.imm ≤ 1020) :
    Calls Try.prog 59 #[.pointer (some ⟨p, 0, none⟩)] w fun e w' => e = .returned (.int .u32 s.addr) ∧ SpW w' p s ∧ Only (fun k => k = p) w w' := by
  obtain ⟨_, r1, r2, r3, r4, r5, r6, _⟩ := h.rest
  obtain ⟨_, _, f2, _⟩ := h.flags
  rw [hop] at r1
  have hdd : (s.i.d.toNat : Int) = s.i.d := by have := hi.d0; omega
  have hnn : (s.i.n.toNat : Int) = s.i.n := by have := hi.n0; omega
  have hmm : (s.i.m.toNat : Int) = s.i.m := by have := hi.m0; omega
  have hd1 : s.i.d.toNat < 16 := by have := hi.d1; have := hi.d0; omega
  have hn1 : s.i.n.toNat < 16 := by have := hi.n1; have := hi.n0; omega
  have hm1 : s.i.m.toNat < 16 := by have := hi.m1; have := hi.m0; omega
  have qd := h.reg hd1
  have qn := h.reg hn1
  have qm := h.reg hm1
  have HRD : Hid (U s.rd) := h.2.reg hd1
  have HRN : Hid (U s.rn) := h.2.reg hn1
  have HRM : Hid (U s.rm) := h.2.reg hm1
  have H := Lib.hid h
  have q13 := h.reg (k := 13) (by omega)
  have HR13 : Hid (U (s.c.R.getD 13 0)) := h.2.reg (by omega)
  generalize hr13 : s.c.R.getD 13 0 = r13 at *
  have HR13' := Lib.hid hr13
  clear hr13
  have ha : s.addr = (s.rn + s.i.imm) % 4294967296 := by unfold Sp.addr; rw [hop]; rfl
  rw [ha]
  clear ha hop
  rw [← hdd] at r2
  rw [← hnn] at r3
  rw [← hmm] at r4
  change w.cell? _ = some (.int .u32 s.rd) at qd
  change w.cell? _ = some (.int .u32 s.rn) at qn
  change w.cell? _ = some (.int .u32 s.rm) at qm
  obtain ⟨rd1, rd2⟩ := HRD.out
  obtain ⟨rn1, rn2⟩ := HRN.out
  obtain ⟨rm1, rm2⟩ := HRM.out
  generalize s.rd = rd at *
  generalize s.rn = rn at *
  generalize s.rm = rm at *
  generalize s.i.imm = imm at *
  generalize s.i.d.toNat = d at *
  generalize s.i.n.toNat = n at *
  generalize s.i.m.toNat = m at *
  generalize s.i.cond = cond at *
  clear hdd hnn hmm hi h
  have hdi : (d : Int) < 16 := by omega
  have hni : (n : Int) < 16 := by omega
  have hmi : (m : Int) < 16 := by omega
  have hlt := H.out.lt
  obtain ⟨wn, hwn⟩ : ∃ wn, wn = w.alloc (.cells #[.int .i64 31, .int .i64 d, .int .i64 n, .int .i64 m, .int .i64 imm, .int .i64 cond] 36) := ⟨_, rfl⟩
  obtain ⟨X, hX⟩ : ∃ X, X = w.heap.size := ⟨_, rfl⟩
  have kb : Blk wn X 36 #[.int .i64 31, .int .i64 d, .int .i64 n, .int .i64 m, .int .i64 imm, .int .i64 cond] := by rw [hwn, hX]; exact Blk.new _ _ _
  have HON : Hid (Only (fun k => k = p) w wn) := by rw [hwn]; exact (Only.refl _ _).alloc _
  have HSN : Hid (SpW wn p s) := H.out.only (S := fun _ => False) (by rw [hwn]; exact (Only.refl _ _).alloc _) id
  have tr : ∀ (k : Nat) (v : Value), w.cell? ⟨p, k, none⟩ = some v → wn.cell? ⟨p, k, none⟩ = some v := fun k v e => by
    rw [((by rw [hwn]; exact (Only.refl _ _).alloc _ : Only (fun _ => False) w wn)).cell (p := ⟨p, k, none⟩) hlt id]; exact e
  have pd := tr _ _ qd; have pn := tr _ _ qn; have pm := tr _ _ qm
  have b0 := kb.cell 0
  have b1 := kb.cell 1
  have b2 := kb.cell 2
  have b3 := kb.cell 3
  have b4 := kb.cell 4
  simp at b0 b1 b2 b3 b4
  have p13 := tr _ _ q13
  obtain ⟨u1, u2⟩ := HR13.out
  go_enter Try.func59, Try.ntmps59
  go_wp2_with fail
  rw [← hwn, ← hX]
  clear hwn hX qd qn qm q13 f2 r1 r2 r3 r4 r5 r6 tr hlt kb
  go_quiet (fail)
  go_wp2_with fail
  go_ret
  exact ⟨rfl, HSN.out.only (S := fun _ => False) ((Only.refl _ _).drewN _) id, HON.out.drewN _⟩
set_option maxHeartbeats 4000000 in
set_option maxRecDepth 100000 in
theorem addr_32 (w : World) (p : Nat) (s : Sp) (h : SpW w p s) (hi : InsOk s.i) (hop : s.i.op = 32) (hk0 : 0 ≤ s.i.imm) (hk1 : s.i.imm ≤ 1020) :
    Calls Try.prog 59 #[.pointer (some ⟨p, 0, none⟩)] w fun e w' => e = .returned (.int .u32 s.addr) ∧ SpW w' p s ∧ Only (fun k => k = p) w w' := by
  obtain ⟨_, r1, r2, r3, r4, r5, r6, _⟩ := h.rest
  obtain ⟨_, _, f2, _⟩ := h.flags
  rw [hop] at r1
  have hdd : (s.i.d.toNat : Int) = s.i.d := by have := hi.d0; omega
  have hnn : (s.i.n.toNat : Int) = s.i.n := by have := hi.n0; omega
  have hmm : (s.i.m.toNat : Int) = s.i.m := by have := hi.m0; omega
  have hd1 : s.i.d.toNat < 16 := by have := hi.d1; have := hi.d0; omega
  have hn1 : s.i.n.toNat < 16 := by have := hi.n1; have := hi.n0; omega
  have hm1 : s.i.m.toNat < 16 := by have := hi.m1; have := hi.m0; omega
  have qd := h.reg hd1
  have qn := h.reg hn1
  have qm := h.reg hm1
  have HRD : Hid (U s.rd) := h.2.reg hd1
  have HRN : Hid (U s.rn) := h.2.reg hn1
  have HRM : Hid (U s.rm) := h.2.reg hm1
  have H := Lib.hid h
  have q13 := h.reg (k := 13) (by omega)
  have HR13 : Hid (U (s.c.R.getD 13 0)) := h.2.reg (by omega)
  generalize hr13 : s.c.R.getD 13 0 = r13 at *
  have HR13' := Lib.hid hr13
  clear hr13
  have ha : s.addr = (s.rn + s.i.imm) % 4294967296 := by unfold Sp.addr; rw [hop]; rfl
  rw [ha]
  clear ha hop
  rw [← hdd] at r2
  rw [← hnn] at r3
  rw [← hmm] at r4
  change w.cell? _ = some (.int .u32 s.rd) at qd
  change w.cell? _ = some (.int .u32 s.rn) at qn
  change w.cell? _ = some (.int .u32 s.rm) at qm
  obtain ⟨rd1, rd2⟩ := HRD.out
  obtain ⟨rn1, rn2⟩ := HRN.out
  obtain ⟨rm1, rm2⟩ := HRM.out
  generalize s.rd = rd at *
  generalize s.rn = rn at *
  generalize s.rm = rm at *
  generalize s.i.imm = imm at *
  generalize s.i.d.toNat = d at *
  generalize s.i.n.toNat = n at *
  generalize s.i.m.toNat = m at *
  generalize s.i.cond = cond at *
  clear hdd hnn hmm hi h
  have hdi : (d : Int) < 16 := by omega
  have hni : (n : Int) < 16 := by omega
  have hmi : (m : Int) < 16 := by omega
  have hlt := H.out.lt
  obtain ⟨wn, hwn⟩ : ∃ wn, wn = w.alloc (.cells #[.int .i64 32, .int .i64 d, .int .i64 n, .int .i64 m, .int .i64 imm, .int .i64 cond] 36) := ⟨_, rfl⟩
  obtain ⟨X, hX⟩ : ∃ X, X = w.heap.size := ⟨_, rfl⟩
  have kb : Blk wn X 36 #[.int .i64 32, .int .i64 d, .int .i64 n, .int .i64 m, .int .i64 imm, .int .i64 cond] := by rw [hwn, hX]; exact Blk.new _ _ _
  have HON : Hid (Only (fun k => k = p) w wn) := by rw [hwn]; exact (Only.refl _ _).alloc _
  have HSN : Hid (SpW wn p s) := H.out.only (S := fun _ => False) (by rw [hwn]; exact (Only.refl _ _).alloc _) id
  have tr : ∀ (k : Nat) (v : Value), w.cell? ⟨p, k, none⟩ = some v → wn.cell? ⟨p, k, none⟩ = some v := fun k v e => by
    rw [((by rw [hwn]; exact (Only.refl _ _).alloc _ : Only (fun _ => False) w wn)).cell (p := ⟨p, k, none⟩) hlt id]; exact e
  have pd := tr _ _ qd; have pn := tr _ _ qn; have pm := tr _ _ qm
  have b0 := kb.cell 0
  have b1 := kb.cell 1
  have b2 := kb.cell 2
  have b3 := kb.cell 3
  have b4 := kb.cell 4
  simp at b0 b1 b2 b3 b4
  have p13 := tr _ _ q13
  obtain ⟨u1, u2⟩ := HR13.out
  go_enter Try.func59, Try.ntmps59
  go_wp2_with fail
  rw [← hwn, ← hX]
  clear hwn hX qd qn qm q13 f2 r1 r2 r3 r4 r5 r6 tr hlt kb
  go_quiet (fail)
  go_wp2_with fail
  go_ret
  exact ⟨rfl, HSN.out.only (S := fun _ => False) ((Only.refl _ _).drewN _) id, HON.out.drewN _⟩
set_option maxHeartbeats 4000000 in
set_option maxRecDepth 100000 in
theorem addr_33 (w : World) (p : Nat) (s : Sp) (h : SpW w p s) (hi : InsOk s.i) (hop : s.i.op = 33) (hk0 : 0 ≤ s.i.imm) (hk1 : s.i.imm ≤ 1020) :
    Calls Try.prog 59 #[.pointer (some ⟨p, 0, none⟩)] w fun e w' => e = .returned (.int .u32 s.addr) ∧ SpW w' p s ∧ Only (fun k => k = p) w w' := by
  obtain ⟨_, r1, r2, r3, r4, r5, r6, _⟩ := h.rest
  obtain ⟨_, _, f2, _⟩ := h.flags
  rw [hop] at r1
  have hdd : (s.i.d.toNat : Int) = s.i.d := by have := hi.d0; omega
  have hnn : (s.i.n.toNat : Int) = s.i.n := by have := hi.n0; omega
  have hmm : (s.i.m.toNat : Int) = s.i.m := by have := hi.m0; omega
  have hd1 : s.i.d.toNat < 16 := by have := hi.d1; have := hi.d0; omega
  have hn1 : s.i.n.toNat < 16 := by have := hi.n1; have := hi.n0; omega
  have hm1 : s.i.m.toNat < 16 := by have := hi.m1; have := hi.m0; omega
  have qd := h.reg hd1
  have qn := h.reg hn1
  have qm := h.reg hm1
  have HRD : Hid (U s.rd) := h.2.reg hd1
  have HRN : Hid (U s.rn) := h.2.reg hn1
  have HRM : Hid (U s.rm) := h.2.reg hm1
  have H := Lib.hid h
  have q13 := h.reg (k := 13) (by omega)
  have HR13 : Hid (U (s.c.R.getD 13 0)) := h.2.reg (by omega)
  generalize hr13 : s.c.R.getD 13 0 = r13 at *
  have HR13' := Lib.hid hr13
  clear hr13
  have ha : s.addr = (s.rn + s.i.imm) % 4294967296 := by unfold Sp.addr; rw [hop]; rfl
  rw [ha]
  clear ha hop
  rw [← hdd] at r2
  rw [← hnn] at r3
  rw [← hmm] at r4
  change w.cell? _ = some (.int .u32 s.rd) at qd
  change w.cell? _ = some (.int .u32 s.rn) at qn
  change w.cell? _ = some (.int .u32 s.rm) at qm
  obtain ⟨rd1, rd2⟩ := HRD.out
  obtain ⟨rn1, rn2⟩ := HRN.out
  obtain ⟨rm1, rm2⟩ := HRM.out
  generalize s.rd = rd at *
  generalize s.rn = rn at *
  generalize s.rm = rm at *
  generalize s.i.imm = imm at *
  generalize s.i.d.toNat = d at *
  generalize s.i.n.toNat = n at *
  generalize s.i.m.toNat = m at *
  generalize s.i.cond = cond at *
  clear hdd hnn hmm hi h
  have hdi : (d : Int) < 16 := by omega
  have hni : (n : Int) < 16 := by omega
  have hmi : (m : Int) < 16 := by omega
  have hlt := H.out.lt
  obtain ⟨wn, hwn⟩ : ∃ wn, wn = w.alloc (.cells #[.int .i64 33, .int .i64 d, .int .i64 n, .int .i64 m, .int .i64 imm, .int .i64 cond] 36) := ⟨_, rfl⟩
  obtain ⟨X, hX⟩ : ∃ X, X = w.heap.size := ⟨_, rfl⟩
  have kb : Blk wn X 36 #[.int .i64 33, .int .i64 d, .int .i64 n, .int .i64 m, .int .i64 imm, .int .i64 cond] := by rw [hwn, hX]; exact Blk.new _ _ _
  have HON : Hid (Only (fun k => k = p) w wn) := by rw [hwn]; exact (Only.refl _ _).alloc _
  have HSN : Hid (SpW wn p s) := H.out.only (S := fun _ => False) (by rw [hwn]; exact (Only.refl _ _).alloc _) id
  have tr : ∀ (k : Nat) (v : Value), w.cell? ⟨p, k, none⟩ = some v → wn.cell? ⟨p, k, none⟩ = some v := fun k v e => by
    rw [((by rw [hwn]; exact (Only.refl _ _).alloc _ : Only (fun _ => False) w wn)).cell (p := ⟨p, k, none⟩) hlt id]; exact e
  have pd := tr _ _ qd; have pn := tr _ _ qn; have pm := tr _ _ qm
  have b0 := kb.cell 0
  have b1 := kb.cell 1
  have b2 := kb.cell 2
  have b3 := kb.cell 3
  have b4 := kb.cell 4
  simp at b0 b1 b2 b3 b4
  have p13 := tr _ _ q13
  obtain ⟨u1, u2⟩ := HR13.out
  go_enter Try.func59, Try.ntmps59
  go_wp2_with fail
  rw [← hwn, ← hX]
  clear hwn hX qd qn qm q13 f2 r1 r2 r3 r4 r5 r6 tr hlt kb
  go_quiet (fail)
  go_wp2_with fail
  go_ret
  exact ⟨rfl, HSN.out.only (S := fun _ => False) ((Only.refl _ _).drewN _) id, HON.out.drewN _⟩
set_option maxHeartbeats 4000000 in
set_option maxRecDepth 100000 in
theorem addr_34 (w : World) (p : Nat) (s : Sp) (h : SpW w p s) (hi : InsOk s.i) (hop : s.i.op = 34) (hk0 : 0 ≤ s.i.imm) (hk1 : s.i.imm ≤ 1020) :
    Calls Try.prog 59 #[.pointer (some ⟨p, 0, none⟩)] w fun e w' => e = .returned (.int .u32 s.addr) ∧ SpW w' p s ∧ Only (fun k => k = p) w w' := by
  obtain ⟨_, r1, r2, r3, r4, r5, r6, _⟩ := h.rest
  obtain ⟨_, _, f2, _⟩ := h.flags
  rw [hop] at r1
  have hdd : (s.i.d.toNat : Int) = s.i.d := by have := hi.d0; omega
  have hnn : (s.i.n.toNat : Int) = s.i.n := by have := hi.n0; omega
  have hmm : (s.i.m.toNat : Int) = s.i.m := by have := hi.m0; omega
  have hd1 : s.i.d.toNat < 16 := by have := hi.d1; have := hi.d0; omega
  have hn1 : s.i.n.toNat < 16 := by have := hi.n1; have := hi.n0; omega
  have hm1 : s.i.m.toNat < 16 := by have := hi.m1; have := hi.m0; omega
  have qd := h.reg hd1
  have qn := h.reg hn1
  have qm := h.reg hm1
  have HRD : Hid (U s.rd) := h.2.reg hd1
  have HRN : Hid (U s.rn) := h.2.reg hn1
  have HRM : Hid (U s.rm) := h.2.reg hm1
  have H := Lib.hid h
  have q13 := h.reg (k := 13) (by omega)
  have HR13 : Hid (U (s.c.R.getD 13 0)) := h.2.reg (by omega)
  generalize hr13 : s.c.R.getD 13 0 = r13 at *
  have HR13' := Lib.hid hr13
  clear hr13
  have ha : s.addr = (s.rn + s.i.imm) % 4294967296 := by unfold Sp.addr; rw [hop]; rfl
  rw [ha]
  clear ha hop
  rw [← hdd] at r2
  rw [← hnn] at r3
  rw [← hmm] at r4
  change w.cell? _ = some (.int .u32 s.rd) at qd
  change w.cell? _ = some (.int .u32 s.rn) at qn
  change w.cell? _ = some (.int .u32 s.rm) at qm
  obtain ⟨rd1, rd2⟩ := HRD.out
  obtain ⟨rn1, rn2⟩ := HRN.out
  obtain ⟨rm1, rm2⟩ := HRM.out
  generalize s.rd = rd at *
  generalize s.rn = rn at *
  generalize s.rm = rm at *
  generalize s.i.imm = imm at *
  generalize s.i.d.toNat = d at *
  generalize s.i.n.toNat = n at *
  generalize s.i.m.toNat = m at *
  generalize s.i.cond = cond at *
  clear hdd hnn hmm hi h
  have hdi : (d : Int) < 16 := by omega
  have hni : (n : Int) < 16 := by omega
  have hmi : (m : Int) < 16 := by omega
  have hlt := H.out.lt
  obtain ⟨wn, hwn⟩ : ∃ wn, wn = w.alloc (.cells #[.int .i64 34, .int .i64 d, .int .i64 n, .int .i64 m, .int .i64 imm, .int .i64 cond] 36) := ⟨_, rfl⟩
  obtain ⟨X, hX⟩ : ∃ X, X = w.heap.size := ⟨_, rfl⟩
  have kb : Blk wn X 36 #[.int .i64 34, .int .i64 d, .int .i64 n, .int .i64 m, .int .i64 imm, .int .i64 cond] := by rw [hwn, hX]; exact Blk.new _ _ _
  have HON : Hid (Only (fun k => k = p) w wn) := by rw [hwn]; exact (Only.refl _ _).alloc _
  have HSN : Hid (SpW wn p s) := H.out.only (S := fun _ => False) (by rw [hwn]; exact (Only.refl _ _).alloc _) id
  have tr : ∀ (k : Nat) (v : Value), w.cell? ⟨p, k, none⟩ = some v → wn.cell? ⟨p, k, none⟩ = some v := fun k v e => by
    rw [((by rw [hwn]; exact (Only.refl _ _).alloc _ : Only (fun _ => False) w wn)).cell (p := ⟨p, k, none⟩) hlt id]; exact e
  have pd := tr _ _ qd; have pn := tr _ _ qn; have pm := tr _ _ qm
  have b0 := kb.cell 0
  have b1 := kb.cell 1
  have b2 := kb.cell 2
  have b3 := kb.cell 3
  have b4 := kb.cell 4
  simp at b0 b1 b2 b3 b4
  have p13 := tr _ _ q13
  obtain ⟨u1, u2⟩ := HR13.out
  go_enter Try.func59, Try.ntmps59
  go_wp2_with fail
  rw [← hwn, ← hX]
  clear hwn hX qd qn qm q13 f2 r1 r2 r3 r4 r5 r6 tr hlt kb
  go_quiet (fail)
  go_wp2_with fail
  go_ret
  exact ⟨rfl, HSN.out.only (S := fun _ => False) ((Only.refl _ _).drewN _) id, HON.out.drewN _⟩
set_option maxHeartbeats 4000000 in
set_option maxRecDepth 100000 in
theorem addr_35 (w : World) (p : Nat) (s : Sp) (h : SpW w p s) (hi : InsOk s.i) (hop : s.i.op = 35) (hk0 : 0 ≤ s.i.imm) (hk1 : s.i.imm ≤ 1020) :
    Calls Try.prog 59 #[.pointer (some ⟨p, 0, none⟩)] w fun e w' => e = .returned (.int .u32 s.addr) ∧ SpW w' p s ∧ Only (fun k => k = p) w w' := by
  obtain ⟨_, r1, r2, r3, r4, r5, r6, _⟩ := h.rest
  obtain ⟨_, _, f2, _⟩ := h.flags
  rw [hop] at r1
  have hdd : (s.i.d.toNat : Int) = s.i.d := by have := hi.d0; omega
  have hnn : (s.i.n.toNat : Int) = s.i.n := by have := hi.n0; omega
  have hmm : (s.i.m.toNat : Int) = s.i.m := by have := hi.m0; omega
  have hd1 : s.i.d.toNat < 16 := by have := hi.d1; have := hi.d0; omega
  have hn1 : s.i.n.toNat < 16 := by have := hi.n1; have := hi.n0; omega
  have hm1 : s.i.m.toNat < 16 := by have := hi.m1; have := hi.m0; omega
  have qd := h.reg hd1
  have qn := h.reg hn1
  have qm := h.reg hm1
  have HRD : Hid (U s.rd) := h.2.reg hd1
  have HRN : Hid (U s.rn) := h.2.reg hn1
  have HRM : Hid (U s.rm) := h.2.reg hm1
  have H := Lib.hid h
  have q13 := h.reg (k := 13) (by omega)
  have HR13 : Hid (U (s.c.R.getD 13 0)) := h.2.reg (by omega)
  generalize hr13 : s.c.R.getD 13 0 = r13 at *
  have HR13' := Lib.hid hr13
  clear hr13
  have ha : s.addr = (r13 + s.i.imm) % 4294967296 := by unfold Sp.addr; rw [hop, HR13'.out]; rfl
  rw [ha]
  clear ha hop
  rw [← hdd] at r2
  rw [← hnn] at r3
  rw [← hmm] at r4
  change w.cell? _ = some (.int .u32 s.rd) at qd
  change w.cell? _ = some (.int .u32 s.rn) at qn
  change w.cell? _ = some (.int .u32 s.rm) at qm
  obtain ⟨rd1, rd2⟩ := HRD.out
  obtain ⟨rn1, rn2⟩ := HRN.out
  obtain ⟨rm1, rm2⟩ := HRM.out
  generalize s.rd = rd at *
  generalize s.rn = rn at *
  generalize s.rm = rm at *
  generalize s.i.imm = imm at *
  generalize s.i.d.toNat = d at *
  generalize s.i.n.toNat = n at *
  generalize s.i.m.toNat = m at *
  generalize s.i.cond = cond at *
  clear hdd hnn hmm hi h
  have hdi : (d : Int) < 16 := by omega
  have hni : (n : Int) < 16 := by omega
  have hmi : (m : Int) < 16 := by omega
  have hlt := H.out.lt
  obtain ⟨wn, hwn⟩ : ∃ wn, wn = w.alloc (.cells #[.int .i64 35, .int .i64 d, .int .i64 n, .int .i64 m, .int .i64 imm, .int .i64 cond] 36) := ⟨_, rfl⟩
  obtain ⟨X, hX⟩ : ∃ X, X = w.heap.size := ⟨_, rfl⟩
  have kb : Blk wn X 36 #[.int .i64 35, .int .i64 d, .int .i64 n, .int .i64 m, .int .i64 imm, .int .i64 cond] := by rw [hwn, hX]; exact Blk.new _ _ _
  have HON : Hid (Only (fun k => k = p) w wn) := by rw [hwn]; exact (Only.refl _ _).alloc _
  have HSN : Hid (SpW wn p s) := H.out.only (S := fun _ => False) (by rw [hwn]; exact (Only.refl _ _).alloc _) id
  have tr : ∀ (k : Nat) (v : Value), w.cell? ⟨p, k, none⟩ = some v → wn.cell? ⟨p, k, none⟩ = some v := fun k v e => by
    rw [((by rw [hwn]; exact (Only.refl _ _).alloc _ : Only (fun _ => False) w wn)).cell (p := ⟨p, k, none⟩) hlt id]; exact e
  have pd := tr _ _ qd; have pn := tr _ _ qn; have pm := tr _ _ qm
  have b0 := kb.cell 0
  have b1 := kb.cell 1
  have b2 := kb.cell 2
  have b3 := kb.cell 3
  have b4 := kb.cell 4
  simp at b0 b1 b2 b3 b4
  have p13 := tr _ _ q13
  obtain ⟨u1, u2⟩ := HR13.out
  go_enter Try.func59, Try.ntmps59
  go_wp2_with fail
  rw [← hwn, ← hX]
  clear hwn hX qd qn qm q13 f2 r1 r2 r3 r4 r5 r6 tr hlt kb
  go_quiet (fail)
  go_wp2_with fail
  go_ret
  exact ⟨rfl, HSN.out.only (S := fun _ => False) ((Only.refl _ _).drewN _) id, HON.out.drewN _⟩
set_option maxHeartbeats 4000000 in
set_option maxRecDepth 100000 in
theorem addr_36 (w : World) (p : Nat) (s : Sp) (h : SpW w p s) (hi : InsOk s.i) (hop : s.i.op = 36) (hk0 : 0 ≤ s.i.imm) (hk1 : s.i.imm ≤ 1020) :
    Calls Try.prog 59 #[.pointer (some ⟨p, 0, none⟩)] w fun e w' => e = .returned (.int .u32 s.addr) ∧ SpW w' p s ∧ Only (fun k => k = p) w w' := by
  obtain ⟨_, r1, r2, r3, r4, r5, r6, _⟩ := h.rest
  obtain ⟨_, _, f2, _⟩ := h.flags
  rw [hop] at r1
  have hdd : (s.i.d.toNat : Int) = s.i.d := by have := hi.d0; omega
  have hnn : (s.i.n.toNat : Int) = s.i.n := by have := hi.n0; omega
  have hmm : (s.i.m.toNat : Int) = s.i.m := by have := hi.m0; omega
  have hd1 : s.i.d.toNat < 16 := by have := hi.d1; have := hi.d0; omega
  have hn1 : s.i.n.toNat < 16 := by have := hi.n1; have := hi.n0; omega
  have hm1 : s.i.m.toNat < 16 := by have := hi.m1; have := hi.m0; omega
  have qd := h.reg hd1
  have qn := h.reg hn1
  have qm := h.reg hm1
  have HRD : Hid (U s.rd) := h.2.reg hd1
  have HRN : Hid (U s.rn) := h.2.reg hn1
  have HRM : Hid (U s.rm) := h.2.reg hm1
  have H := Lib.hid h
  have q13 := h.reg (k := 13) (by omega)
  have HR13 : Hid (U (s.c.R.getD 13 0)) := h.2.reg (by omega)
  generalize hr13 : s.c.R.getD 13 0 = r13 at *
  have HR13' := Lib.hid hr13
  clear hr13
  have ha : s.addr = (r13 + s.i.imm) % 4294967296 := by unfold Sp.addr; rw [hop, HR13'.out]; rfl
  rw [ha]
  clear ha hop
  rw [← hdd] at r2
  rw [← hnn] at r3
  rw [← hmm] at r4
  change w.cell? _ = some (.int .u32 s.rd) at qd
  change w.cell? _ = some (.int .u32 s.rn) at qn
  change w.cell? _ = some (.int .u32 s.rm) at qm
  obtain ⟨rd1, rd2⟩ := HRD.out
  obtain ⟨rn1, rn2⟩ := HRN.out
  obtain ⟨rm1, rm2⟩ := HRM.out
  generalize s.rd = rd at *
  generalize s.rn = rn at *
  generalize s.rm = rm at *
  generalize s.i.imm = imm at *
  generalize s.i.d.toNat = d at *
  generalize s.i.n.toNat = n at *
  generalize s.i.m.toNat = m at *
  generalize s.i.cond = cond at *
  clear hdd hnn hmm hi h
  have hdi : (d : Int) < 16 := by omega
  have hni : (n : Int) < 16 := by omega
  have hmi : (m : Int) < 16 := by omega
  have hlt := H.out.lt
  obtain ⟨wn, hwn⟩ : ∃ wn, wn = w.alloc (.cells #[.int .i64 36, .int .i64 d, .int .i64 n, .int .i64 m, .int .i64 imm, .int .i64 cond] 36) := ⟨_, rfl⟩
  obtain ⟨X, hX⟩ : ∃ X, X = w.heap.size := ⟨_, rfl⟩
  have kb : Blk wn X 36 #[.int .i64 36, .int .i64 d, .int .i64 n, .int .i64 m, .int .i64 imm, .int .i64 cond] := by rw [hwn, hX]; exact Blk.new _ _ _
  have HON : Hid (Only (fun k => k = p) w wn) := by rw [hwn]; exact (Only.refl _ _).alloc _
  have HSN : Hid (SpW wn p s) := H.out.only (S := fun _ => False) (by rw [hwn]; exact (Only.refl _ _).alloc _) id
  have tr : ∀ (k : Nat) (v : Value), w.cell? ⟨p, k, none⟩ = some v → wn.cell? ⟨p, k, none⟩ = some v := fun k v e => by
    rw [((by rw [hwn]; exact (Only.refl _ _).alloc _ : Only (fun _ => False) w wn)).cell (p := ⟨p, k, none⟩) hlt id]; exact e
  have pd := tr _ _ qd; have pn := tr _ _ qn; have pm := tr _ _ qm
  have b0 := kb.cell 0
  have b1 := kb.cell 1
  have b2 := kb.cell 2
  have b3 := kb.cell 3
  have b4 := kb.cell 4
  simp at b0 b1 b2 b3 b4
  have p13 := tr _ _ q13
  obtain ⟨u1, u2⟩ := HR13.out
  go_enter Try.func59, Try.ntmps59
  go_wp2_with fail
  rw [← hwn, ← hX]
  clear hwn hX qd qn qm q13 f2 r1 r2 r3 r4 r5 r6 tr hlt kb
  go_quiet (fail)
  go_wp2_with fail
  go_ret
  exact ⟨rfl, HSN.out.only (S := fun _ => False) ((Only.refl _ _).drewN _) id, HON.out.drewN _⟩
set_option maxHeartbeats 4000000 in
set_option maxRecDepth 100000 in
theorem addr_no (w : World) (p : Nat) (s : Sp) (h : SpW w p s) (hi : InsOk s.i) (e29 : s.i.op ≠ 29) (e30 : s.i.op ≠ 30) (e35 : s.i.op ≠ 35) (e36 : s.i.op ≠ 36) :
    Calls Try.prog 59 #[.pointer (some ⟨p, 0, none⟩)] w fun e w' => (∃ a, e = .returned (.int .u32 a) ∧ U a) ∧ SpW w' p s ∧ Only (fun k => k = p) w w' := by
  obtain ⟨_, r1, r2, r3, r4, r5, r6, _⟩ := h.rest
  obtain ⟨_, _, f2, _⟩ := h.flags
  have hdd : (s.i.d.toNat : Int) = s.i.d := by have := hi.d0; omega
  have hnn : (s.i.n.toNat : Int) = s.i.n := by have := hi.n0; omega
  have hmm : (s.i.m.toNat : Int) = s.i.m := by have := hi.m0; omega
  have hd1 : s.i.d.toNat < 16 := by have := hi.d1; have := hi.d0; omega
  have hn1 : s.i.n.toNat < 16 := by have := hi.n1; have := hi.n0; omega
  have hm1 : s.i.m.toNat < 16 := by have := hi.m1; have := hi.m0; omega
  have qd := h.reg hd1
  have qn := h.reg hn1
  have qm := h.reg hm1
  have HRD : Hid (U s.rd) := h.2.reg hd1
  have HRN : Hid (U s.rn) := h.2.reg hn1
  have HRM : Hid (U s.rm) := h.2.reg hm1
  have H := Lib.hid h
  have q13 := h.reg (k := 13) (by omega)
  have HR13 : Hid (U (s.c.R.getD 13 0)) := h.2.reg (by omega)
  generalize hr13 : s.c.R.getD 13 0 = r13 at *
  have HR13' := Lib.hid hr13
  clear hr13
  have t29 : (s.i.op == 29) = false := by simp [e29]
  have t30 : (s.i.op == 30) = false := by simp [e30]
  have t35 : (s.i.op == 35) = false := by simp [e35]
  have t36 : (s.i.op == 36) = false := by simp [e36]
  generalize s.i.op = op at *
  clear e29 e30 e35 e36
  rw [← hdd] at r2
  rw [← hnn] at r3
  rw [← hmm] at r4
  change w.cell? _ = some (.int .u32 s.rd) at qd
  change w.cell? _ = some (.int .u32 s.rn) at qn
  change w.cell? _ = some (.int .u32 s.rm) at qm
  obtain ⟨rd1, rd2⟩ := HRD.out
  obtain ⟨rn1, rn2⟩ := HRN.out
  obtain ⟨rm1, rm2⟩ := HRM.out
  generalize s.rd = rd at *
  generalize s.rn = rn at *
  generalize s.rm = rm at *
  generalize s.i.imm = imm at *
  generalize s.i.d.toNat = d at *
  generalize s.i.n.toNat = n at *
  generalize s.i.m.toNat = m at *
  generalize s.i.cond = cond at *
  clear hdd hnn hmm hi h
  have hdi : (d : Int) < 16 := by omega
  have hni : (n : Int) < 16 := by omega
  have hmi : (m : Int) < 16 := by omega
  have hlt := H.out.lt
  obtain ⟨wn, hwn⟩ : ∃ wn, wn = w.alloc (.cells #[.int .i64 op, .int .i64 d, .int .i64 n, .int .i64 m, .int .i64 imm, .int .i64 cond] 36) := ⟨_, rfl⟩
  obtain ⟨X, hX⟩ : ∃ X, X = w.heap.size := ⟨_, rfl⟩
  have kb : Blk wn X 36 #[.int .i64 op, .int .i64 d, .int .i64 n, .int .i64 m, .int .i64 imm, .int .i64 cond] := by rw [hwn, hX]; exact Blk.new _ _ _
  have HON : Hid (Only (fun k => k = p) w wn) := by rw [hwn]; exact (Only.refl _ _).alloc _
  have HSN : Hid (SpW wn p s) := H.out.only (S := fun _ => False) (by rw [hwn]; exact (Only.refl _ _).alloc _) id
  have tr : ∀ (k : Nat) (v : Value), w.cell? ⟨p, k, none⟩ = some v → wn.cell? ⟨p, k, none⟩ = some v := fun k v e => by
    rw [((by rw [hwn]; exact (Only.refl _ _).alloc _ : Only (fun _ => False) w wn)).cell (p := ⟨p, k, none⟩) hlt id]; exact e
  have pd := tr _ _ qd; have pn := tr _ _ qn; have pm := tr _ _ qm
  have b0 := kb.cell 0
  have b1 := kb.cell 1
  have b2 := kb.cell 2
  have b3 := kb.cell 3
  have b4 := kb.cell 4
  simp at b0 b1 b2 b3 b4
  have p13 := tr _ _ q13
  obtain ⟨u1, u2⟩ := HR13.out
  go_enter Try.func59, Try.ntmps59
  go_wp2_with fail
  rw [← hwn, ← hX]
  clear hwn hX qd qn qm q13 f2 r1 r2 r3 r4 r5 r6 tr hlt kb
  go_quiet (fail)
  go_wp2_with fail
  go_ret
  refine ⟨⟨_, rfl, ?_⟩, HSN.out.only (S := fun _ => False) ((Only.refl _ _).drewN _) id, HON.out.drewN _⟩
  unfold U; omega
end Go.Proofs.Ytpihjhfaeloapaa
namespace Go.Proofs.Ytpihjhfaeloapaa
open Go.RowKit On Th
def wordS (f : Nat → Int) (a : Int) : Int × Bool := if 0 ≤ a ∧ a % 4 = 0 ∧ a < 262144 then (getB f a.toNat 4, true) else (0, false)
def byteS (f : Nat → Int) (a : Int) : Int × Bool := if 0 ≤ a ∧ a < 262144 then (f a.toNat, true) else (0, false)
def setWordS (f : Nat → Int) (a v : Int) : (Nat → Int) × Bool := if 131072 ≤ a ∧ a % 4 = 0 ∧ a < 262144 then (setB f a.toNat 4 v, true) else (f, false)
def setByteS (f : Nat → Int) (a v : Int) : (Nat → Int) × Bool := if 131072 ≤ a ∧ a < 262144 then (upd f a.toNat v, true) else (f, false)
/-- the memory that a step works on -/
def MW (w : World) (m : Nat) (g : Nat) (f : Nat → Int) : Prop := Mm w 74 m g f
theorem word_c (w : World) (m g : Nat) (f : Nat → Int) (a : Int) (h : MW w m g f) :
    Calls Try.prog 25 #[.pointer (some ⟨m, 0, none⟩), .int .i64 a] w fun e w' => e = .returned (.tuple #[.int .u32 (wordS f a).1, .bool (wordS f a).2]) ∧ w = w' := by
  unfold wordS
  by_cases c : 0 ≤ a ∧ a % 4 = 0 ∧ a < 262144
  · rw [if_pos c]; exact word_yes w m g f a h c.1 c.2.1 c.2.2
  · rw [if_neg c]; exact word_no w _ a (by omega)
theorem byte_c (w : World) (m g : Nat) (f : Nat → Int) (a : Int) (h : MW w m g f) :
    Calls Try.prog 60 #[.pointer (some ⟨m, 0, none⟩), .int .i64 a] w fun e w' => e = .returned (.tuple #[.int .u8 (byteS f a).1, .bool (byteS f a).2]) ∧ w = w' := by
  unfold byteS
  by_cases c : 0 ≤ a ∧ a < 262144
  · rw [if_pos c]; exact byte_yes w m g f a h c.1 c.2
  · rw [if_neg c]; exact byte_no w _ a (by omega)
theorem setword_c (w : World) (m g : Nat) (f : Nat → Int) (a v : Int) (h : MW w m g f) :
    Calls Try.prog 61 #[.pointer (some ⟨m, 0, none⟩), .int .i64 a, .int .u32 v] w fun e w' => e = .returned (.bool (setWordS f a v).2) ∧ MW w' m g (setWordS f a v).1 ∧ Only (fun k => k = g) w w' := by
  unfold setWordS
  by_cases c : 131072 ≤ a ∧ a % 4 = 0 ∧ a < 262144
  · rw [if_pos c]; exact setword_yes w m g f a v h c.1 c.2.1 c.2.2
  · rw [if_neg c]; exact (setword_no w _ a v (by omega)).mono fun e w' ⟨e1, e2⟩ => ⟨e1, e2 ▸ h, e2 ▸ Only.refl _ _⟩
theorem setbyte_c (w : World) (m g : Nat) (f : Nat → Int) (a v : Int) (hv : 0 ≤ v ∧ v ≤ 255) (h : MW w m g f) :
    Calls Try.prog 62 #[.pointer (some ⟨m, 0, none⟩), .int .i64 a, .int .u8 v] w fun e w' => e = .returned (.bool (setByteS f a v).2) ∧ MW w' m g (setByteS f a v).1 ∧ Only (fun k => k = g) w w' := by
  unfold setByteS
  by_cases c : 131072 ≤ a ∧ a < 262144
  · rw [if_pos c]; exact setbyte_yes w m g f a v h c.1 c.2 hv
  · rw [if_neg c]; exact (setbyte_no w _ a v (by omega)).mono fun e w' ⟨e1, e2⟩ => ⟨e1, e2 ▸ h, e2 ▸ Only.refl _ _⟩
theorem MW.range {w : World} {m g : Nat} {f : Nat → Int} (h : MW w m g f) : ∀ i, 0 ≤ f i ∧ f i ≤ 255 := fun i => h.2.range i
theorem MW.only {w w' : World} {m g : Nat} {f : Nat → Int} {S : Nat → Prop} (h : MW w m g f) (hO : Only S w w') (hm : ¬ S m) (hg : ¬ S g) : MW w' m g f := ⟨h.1.only hO hm, h.2.only hO hg⟩
theorem wordS_U {f : Nat → Int} (hf : ∀ i, 0 ≤ f i ∧ f i ≤ 255) (a : Int) : U (wordS f a).1 := by
  unfold wordS
  split
  · have h := getB_range hf a.toNat 4
    unfold U; dsimp only; constructor
    · exact h.1
    · have := h.2; omega
  · unfold U; dsimp only; omega
theorem byteS_R {f : Nat → Int} (hf : ∀ i, 0 ≤ f i ∧ f i ≤ 255) (a : Int) : 0 ≤ (byteS f a).1 ∧ (byteS f a).1 ≤ 255 := by
  unfold byteS
  split
  · exact hf _
  · dsimp only; omega
theorem SpW.apart {w : World} {p m g : Nat} {s : Sp} {f : Nat → Int} (h : SpW w p s) (hm : MW w m g f) : p ≠ m ∧ p ≠ g := by
  obtain ⟨hb, cs, hc, _⟩ := hm
  exact ⟨h.1.ne hb (by decide), h.1.ne hc (by decide)⟩
theorem MW.apart {w : World} {m g : Nat} {f : Nat → Int} (hm : MW w m g f) : m ≠ g := by
  obtain ⟨hb, cs, hc, _⟩ := hm
  exact hb.ne hc (by decide)
theorem addr_U (s : Sp) : U s.addr := by unfold Sp.addr U; split <;> (try split) <;> omega
/-- behind a load or a store -/
def Sp.memEnd (s : Sp) (a : Int) (ok : Bool) : Sp := { s with touch := a, cost := 2, fault := !ok }
def MemPost (p m g : Nat) (s : Sp) (f : Nat → Int) (w : World) (e : Ending) (w' : World) : Prop := e = .returned (.bool true) ∧ SpW w' p s ∧ MW w' m g f ∧ Only (fun k => k = p ∨ k = g) w w'
set_option maxHeartbeats 4000000 in
set_option maxRecDepth 100000 in
theorem mem_29 (w : World) (p m g : Nat) (s : Sp) (f : Nat → Int) (h : SpW w p s) (hi : InsOk s.i) (hm : MW w m g f) (hsm : s.m = .pointer (some ⟨m, 0, none⟩)) (hop : s.i.op = 29) :
    Calls Try.prog 38 #[.pointer (some ⟨p, 0, none⟩)] w (MemPost p m g ((s.setR s.i.d.toNat (wordS f s.addr).1).memEnd s.addr (wordS f s.addr).2) f w) := by
  have hap := h.apart hm
  obtain ⟨r23, r1, r2, _⟩ := h.rest
  rw [hsm] at r23
  rw [hop] at r1
  have hdd : (s.i.d.toNat : Int) = s.i.d := by have := hi.d0; omega
  have hd1 : s.i.d.toNat < 16 := by have := hi.d1; have := hi.d0; omega
  have HRD : Hid (U s.rd) := h.2.reg hd1
  have HAD := Lib.hid (addr_29 w p s h hi hop)
  obtain ⟨ua, ub⟩ := addr_U s
  have HFR := Lib.hid hm.range
  have HM := Lib.hid hm
  have H := Lib.hid h
  have HW := Lib.hid (fun (wq : World) (g' : MW wq m g f) => word_c wq m g f s.addr g')
  have HWU := Lib.hid (wordS_U HFR.out s.addr)
  have HT := Lib.hid (fun (wq : World) (g' : SpW wq p s) => set_c wq p _ g' s.i.d.toNat hdd.symm hd1 (wordS f s.addr).1 HWU.out)
  generalize wordS f s.addr = wo at *
  obtain ⟨v, ok⟩ := wo
  dsimp only at HW HWU HT ⊢
  generalize s.addr = a at *
  clear h hm hi
  go_enter Try.func38, Try.ntmps38
  go_wp2_with fail
  refine (HAD.out).mono ?_
  rintro e w1 ⟨rfl, h1, o1⟩
  have HM1 : Hid (MW w1 m g f) := HM.out.only o1 (fun e => hap.1 e.symm) (fun e => hap.2 e.symm)
  have O1 : Hid (Only (fun k => k = p ∨ k = g) w w1) := o1.mono (fun _ _ e => .inl e)
  have H1 := Lib.hid h1
  clear r23 r1 r2
  obtain ⟨r23, r1, r2, _⟩ := h1.rest
  rw [hsm] at r23
  rw [hop] at r1
  clear h1 o1 HAD
  obtain ⟨u1, u2⟩ := HWU.out
  go_wp2_with fail
  refine (HW.out _ HM1.out).mono ?_
  rintro e w' ⟨rfl, rfl⟩
  go_wp2_with fail
  refine (HT.out _ H1.out).mono ?_
  rintro e w2 ⟨rfl, h2, o2⟩
  have HZ := Lib.hid h2
  have HMZ : Hid (MW w2 m g f) := HM1.out.only o2 (fun e => hap.1 e.symm) (fun e => hap.2 e.symm)
  have OZ : Hid (Only (fun k => k = p ∨ k = g) w w2) := O1.out.trans (o2.mono (T := fun k => k = p ∨ k = g) (fun _ _ e => .inl e)) (fun _ _ h => h)
  clear h2 o2 r23 r1 r2
  have z31 := HZ.out.frozen 31
  have z32 := HZ.out.frozen 32
  have z33 := HZ.out.frozen 33
  obtain ⟨_, _, _, _, _, _, _, _, q31, q32, q33⟩ := HZ.out.rest
  go_wp2_with fail
  go_ret
  refine ⟨rfl, ((HZ.out.setTouch a).setCost 2).setFault (!ok), HMZ.out.only (S := fun k => k = p) ((((Only.refl (fun k => k = p) _).setCell (p := ⟨p, 31, none⟩) (.inl rfl) _).setCell (p := ⟨p, 32, none⟩) (.inl rfl) _).setCell (p := ⟨p, 33, none⟩) (.inl rfl) _) (fun e => hap.1 e.symm) (fun e => hap.2 e.symm), ((OZ.out.setCell (p := ⟨p, 31, none⟩) (.inl (.inl rfl)) _).setCell (p := ⟨p, 32, none⟩) (.inl (.inl rfl)) _).setCell (p := ⟨p, 33, none⟩) (.inl (.inl rfl)) _⟩
set_option maxHeartbeats 4000000 in
set_option maxRecDepth 100000 in
theorem mem_31 (w : World) (p m g : Nat) (s : Sp) (f : Nat → Int) (h : SpW w p s) (hi : InsOk s.i) (hm : MW w m g f) (hsm : s.m = .pointer (some ⟨m, 0, none⟩)) (hop : s.i.op = 31) (hk0 : 0 ≤ s.i.imm) (hk1 : s.i.imm ≤ 1020) :
    Calls Try.prog 38 #[.pointer (some ⟨p, 0, none⟩)] w (MemPost p m g ((s.setR s.i.d.toNat (wordS f s.addr).1).memEnd s.addr (wordS f s.addr).2) f w) := by
  have hap := h.apart hm
  obtain ⟨r23, r1, r2, _⟩ := h.rest
  rw [hsm] at r23
  rw [hop] at r1
  have hdd : (s.i.d.toNat : Int) = s.i.d := by have := hi.d0; omega
  have hd1 : s.i.d.toNat < 16 := by have := hi.d1; have := hi.d0; omega
  have HRD : Hid (U s.rd) := h.2.reg hd1
  have HAD := Lib.hid (addr_31 w p s h hi hop hk0 hk1)
  obtain ⟨ua, ub⟩ := addr_U s
  have HFR := Lib.hid hm.range
  have HM := Lib.hid hm
  have H := Lib.hid h
  have HW := Lib.hid (fun (wq : World) (g' : MW wq m g f) => word_c wq m g f s.addr g')
  have HWU := Lib.hid (wordS_U HFR.out s.addr)
  have HT := Lib.hid (fun (wq : World) (g' : SpW wq p s) => set_c wq p _ g' s.i.d.toNat hdd.symm hd1 (wordS f s.addr).1 HWU.out)
  generalize wordS f s.addr = wo at *
  obtain ⟨v, ok⟩ := wo
  dsimp only at HW HWU HT ⊢
  generalize s.addr = a at *
  clear h hm hi
  go_enter Try.func38, Try.ntmps38
  go_wp2_with fail
  refine (HAD.out).mono ?_
  rintro e w1 ⟨rfl, h1, o1⟩
  have HM1 : Hid (MW w1 m g f) := HM.out.only o1 (fun e => hap.1 e.symm) (fun e => hap.2 e.symm)
  have O1 : Hid (Only (fun k => k = p ∨ k = g) w w1) := o1.mono (fun _ _ e => .inl e)
  have H1 := Lib.hid h1
  clear r23 r1 r2
  obtain ⟨r23, r1, r2, _⟩ := h1.rest
  rw [hsm] at r23
  rw [hop] at r1
  clear h1 o1 HAD
  obtain ⟨u1, u2⟩ := HWU.out
  go_wp2_with fail
  refine (HW.out _ HM1.out).mono ?_
  rintro e w' ⟨rfl, rfl⟩
  go_wp2_with fail
  refine (HT.out _ H1.out).mono ?_
  rintro e w2 ⟨rfl, h2, o2⟩
  have HZ := Lib.hid h2
  have HMZ : Hid (MW w2 m g f) := HM1.out.only o2 (fun e => hap.1 e.symm) (fun e => hap.2 e.symm)
  have OZ : Hid (Only (fun k => k = p ∨ k = g) w w2) := O1.out.trans (o2.mono (T := fun k => k = p ∨ k = g) (fun _ _ e => .inl e)) (fun _ _ h => h)
  clear h2 o2 r23 r1 r2
  have z31 := HZ.out.frozen 31
  have z32 := HZ.out.frozen 32
  have z33 := HZ.out.frozen 33
  obtain ⟨_, _, _, _, _, _, _, _, q31, q32, q33⟩ := HZ.out.rest
  go_wp2_with fail
  go_ret
  refine ⟨rfl, ((HZ.out.setTouch a).setCost 2).setFault (!ok), HMZ.out.only (S := fun k => k = p) ((((Only.refl (fun k => k = p) _).setCell (p := ⟨p, 31, none⟩) (.inl rfl) _).setCell (p := ⟨p, 32, none⟩) (.inl rfl) _).setCell (p := ⟨p, 33, none⟩) (.inl rfl) _) (fun e => hap.1 e.symm) (fun e => hap.2 e.symm), ((OZ.out.setCell (p := ⟨p, 31, none⟩) (.inl (.inl rfl)) _).setCell (p := ⟨p, 32, none⟩) (.inl (.inl rfl)) _).setCell (p := ⟨p, 33, none⟩) (.inl (.inl rfl)) _⟩
set_option maxHeartbeats 4000000 in
set_option maxRecDepth 100000 in
theorem mem_35 (w : World) (p m g : Nat) (s : Sp) (f : Nat → Int) (h : SpW w p s) (hi : InsOk s.i) (hm : MW w m g f) (hsm : s.m = .pointer (some ⟨m, 0, none⟩)) (hop : s.i.op = 35) (hk0 : 0 ≤ s.i.imm) (hk1 : s.i.imm ≤ 1020) :
    Calls Try.prog 38 #[.pointer (some ⟨p, 0, none⟩)] w (MemPost p m g ((s.setR s.i.d.toNat (wordS f s.addr).1).memEnd s.addr (wordS f s.addr).2) f w) := by
  have hap := h.apart hm
  obtain ⟨r23, r1, r2, _⟩ := h.rest
  rw [hsm] at r23
  rw [hop] at r1
  have hdd : (s.i.d.toNat : Int) = s.i.d := by have := hi.d0; omega
  have hd1 : s.i.d.toNat < 16 := by have := hi.d1; have := hi.d0; omega
  have HRD : Hid (U s.rd) := h.2.reg hd1
  have HAD := Lib.hid (addr_35 w p s h hi hop hk0 hk1)
  obtain ⟨ua, ub⟩ := addr_U s
  have HFR := Lib.hid hm.range
  have HM := Lib.hid hm
  have H := Lib.hid h
  have HW := Lib.hid (fun (wq : World) (g' : MW wq m g f) => word_c wq m g f s.addr g')
  have HWU := Lib.hid (wordS_U HFR.out s.addr)
  have HT := Lib.hid (fun (wq : World) (g' : SpW wq p s) => set_c wq p _ g' s.i.d.toNat hdd.symm hd1 (wordS f s.addr).1 HWU.out)
  generalize wordS f s.addr = wo at *
  obtain ⟨v, ok⟩ := wo
  dsimp only at HW HWU HT ⊢
  generalize s.addr = a at *
  clear h hm hi
  go_enter Try.func38, Try.ntmps38
  go_wp2_with fail
  refine (HAD.out).mono ?_
  rintro e w1 ⟨rfl, h1, o1⟩
  have HM1 : Hid (MW w1 m g f) := HM.out.only o1 (fun e => hap.1 e.symm) (fun e => hap.2 e.symm)
  have O1 : Hid (Only (fun k => k = p ∨ k = g) w w1) := o1.mono (fun _ _ e => .inl e)
  have H1 := Lib.hid h1
  clear r23 r1 r2
  obtain ⟨r23, r1, r2, _⟩ := h1.rest
  rw [hsm] at r23
  rw [hop] at r1
  clear h1 o1 HAD
  obtain ⟨u1, u2⟩ := HWU.out
  go_wp2_with fail
  refine (HW.out _ HM1.out).mono ?_
  rintro e w' ⟨rfl, rfl⟩
  go_wp2_with fail
  refine (HT.out _ H1.out).mono ?_
  rintro e w2 ⟨rfl, h2, o2⟩
  have HZ := Lib.hid h2
  have HMZ : Hid (MW w2 m g f) := HM1.out.only o2 (fun e => hap.1 e.symm) (fun e => hap.2 e.symm)
  have OZ : Hid (Only (fun k => k = p ∨ k = g) w w2) := O1.out.trans (o2.mono (T := fun k => k = p ∨ k = g) (fun _ _ e => .inl e)) (fun _ _ h => h)
  clear h2 o2 r23 r1 r2
  have z31 := HZ.out.frozen 31
  have z32 := HZ.out.frozen 32
  have z33 := HZ.out.frozen 33
  obtain ⟨_, _, _, _, _, _, _, _, q31, q32, q33⟩ := HZ.out.rest
  go_wp2_with fail
  go_ret
  refine ⟨rfl, ((HZ.out.setTouch a).setCost 2).setFault (!ok), HMZ.out.only (S := fun k => k = p) ((((Only.refl (fun k => k = p) _).setCell (p := ⟨p, 31, none⟩) (.inl rfl) _).setCell (p := ⟨p, 32, none⟩) (.inl rfl) _).setCell (p := ⟨p, 33, none⟩) (.inl rfl) _) (fun e => hap.1 e.symm) (fun e => hap.2 e.symm), ((OZ.out.setCell (p := ⟨p, 31, none⟩) (.inl (.inl rfl)) _).setCell (p := ⟨p, 32, none⟩) (.inl (.inl rfl)) _).setCell (p := ⟨p, 33, none⟩) (.inl (.inl rfl)) _⟩
set_option maxHeartbeats 4000000 in
set_option maxRecDepth 100000 in
theorem mem_33 (w : World) (p m g : Nat) (s : Sp) (f : Nat → Int) (h : SpW w p s) (hi : InsOk s.i) (hm : MW w m g f) (hsm : s.m = .pointer (some ⟨m, 0, none⟩)) (hop : s.i.op = 33) (hk0 : 0 ≤ s.i.imm) (hk1 : s.i.imm ≤ 1020) :
    Calls Try.prog 38 #[.pointer (some ⟨p, 0, none⟩)] w (MemPost p m g ((s.setR s.i.d.toNat (byteS f s.addr).1).memEnd s.addr (byteS f s.addr).2) f w) := by
  have hap := h.apart hm
  obtain ⟨r23, r1, r2, _⟩ := h.rest
  rw [hsm] at r23
  rw [hop] at r1
  have hdd : (s.i.d.toNat : Int) = s.i.d := by have := hi.d0; omega
  have hd1 : s.i.d.toNat < 16 := by have := hi.d1; have := hi.d0; omega
  have HRD : Hid (U s.rd) := h.2.reg hd1
  have HAD := Lib.hid (addr_33 w p s h hi hop hk0 hk1)
  obtain ⟨ua, ub⟩ := addr_U s
  have HFR := Lib.hid hm.range
  have HM := Lib.hid hm
  have H := Lib.hid h
  have HW := Lib.hid (fun (wq : World) (g' : MW wq m g f) => byte_c wq m g f s.addr g')
  have HWU := Lib.hid (byteS_R HFR.out s.addr)
  have HT := Lib.hid (fun (wq : World) (g' : SpW wq p s) => set_c wq p _ g' s.i.d.toNat hdd.symm hd1 (byteS f s.addr).1 (by have := HWU.out; unfold U; omega))
  generalize byteS f s.addr = wo at *
  obtain ⟨v, ok⟩ := wo
  dsimp only at HW HWU HT ⊢
  generalize s.addr = a at *
  clear h hm hi
  go_enter Try.func38, Try.ntmps38
  go_wp2_with fail
  refine (HAD.out).mono ?_
  rintro e w1 ⟨rfl, h1, o1⟩
  have HM1 : Hid (MW w1 m g f) := HM.out.only o1 (fun e => hap.1 e.symm) (fun e => hap.2 e.symm)
  have O1 : Hid (Only (fun k => k = p ∨ k = g) w w1) := o1.mono (fun _ _ e => .inl e)
  have H1 := Lib.hid h1
  clear r23 r1 r2
  obtain ⟨r23, r1, r2, _⟩ := h1.rest
  rw [hsm] at r23
  rw [hop] at r1
  clear h1 o1 HAD
  obtain ⟨u1, u2⟩ := HWU.out
  go_wp2_with fail
  refine (HW.out _ HM1.out).mono ?_
  rintro e w' ⟨rfl, rfl⟩
  go_wp2_with fail
  refine (HT.out _ H1.out).mono ?_
  rintro e w2 ⟨rfl, h2, o2⟩
  have HZ := Lib.hid h2
  have HMZ : Hid (MW w2 m g f) := HM1.out.only o2 (fun e => hap.1 e.symm) (fun e => hap.2 e.symm)
  have OZ : Hid (Only (fun k => k = p ∨ k = g) w w2) := O1.out.trans (o2.mono (T := fun k => k = p ∨ k = g) (fun _ _ e => .inl e)) (fun _ _ h => h)
  clear h2 o2 r23 r1 r2
  have z31 := HZ.out.frozen 31
  have z32 := HZ.out.frozen 32
  have z33 := HZ.out.frozen 33
  obtain ⟨_, _, _, _, _, _, _, _, q31, q32, q33⟩ := HZ.out.rest
  go_wp2_with fail
  go_ret
  refine ⟨rfl, ((HZ.out.setTouch a).setCost 2).setFault (!ok), HMZ.out.only (S := fun k => k = p) ((((Only.refl (fun k => k = p) _).setCell (p := ⟨p, 31, none⟩) (.inl rfl) _).setCell (p := ⟨p, 32, none⟩) (.inl rfl) _).setCell (p := ⟨p, 33, none⟩) (.inl rfl) _) (fun e => hap.1 e.symm) (fun e => hap.2 e.symm), ((OZ.out.setCell (p := ⟨p, 31, none⟩) (.inl (.inl rfl)) _).setCell (p := ⟨p, 32, none⟩) (.inl (.inl rfl)) _).setCell (p := ⟨p, 33, none⟩) (.inl (.inl rfl)) _⟩
set_option maxHeartbeats 4000000 in
set_option maxRecDepth 100000 in
theorem mem_30 (w : World) (p m g : Nat) (s : Sp) (f : Nat → Int) (h : SpW w p s) (hi : InsOk s.i) (hm : MW w m g f) (hsm : s.m = .pointer (some ⟨m, 0, none⟩)) (hop : s.i.op = 30) :
    Calls Try.prog 38 #[.pointer (some ⟨p, 0, none⟩)] w (MemPost p m g (s.memEnd s.addr (setWordS f s.addr s.rd).2) (setWordS f s.addr s.rd).1 w) := by
  have hap := h.apart hm
  obtain ⟨r23, r1, r2, _⟩ := h.rest
  rw [hsm] at r23
  rw [hop] at r1
  have hdd : (s.i.d.toNat : Int) = s.i.d := by have := hi.d0; omega
  have hd1 : s.i.d.toNat < 16 := by have := hi.d1; have := hi.d0; omega
  have HRD : Hid (U s.rd) := h.2.reg hd1
  have HAD := Lib.hid (addr_30 w p s h hi hop)
  obtain ⟨ua, ub⟩ := addr_U s
  have HFR := Lib.hid hm.range
  have HM := Lib.hid hm
  have H := Lib.hid h
  have HW := Lib.hid (fun (wq : World) (g' : MW wq m g f) => setword_c wq m g f s.addr s.rd g')
  generalize setWordS f s.addr s.rd = wo at *
  obtain ⟨f2, ok⟩ := wo
  dsimp only at HW ⊢
  generalize s.addr = a at *
  clear h hm hi
  go_enter Try.func38, Try.ntmps38
  go_wp2_with fail
  refine (HAD.out).mono ?_
  rintro e w1 ⟨rfl, h1, o1⟩
  have HM1 : Hid (MW w1 m g f) := HM.out.only o1 (fun e => hap.1 e.symm) (fun e => hap.2 e.symm)
  have O1 : Hid (Only (fun k => k = p ∨ k = g) w w1) := o1.mono (fun _ _ e => .inl e)
  have H1 := Lib.hid h1
  clear r23 r1 r2
  obtain ⟨r23, r1, r2, _⟩ := h1.rest
  rw [hsm] at r23
  rw [hop] at r1
  clear h1 o1 HAD
  rw [← hdd] at r2
  have qd := H1.out.reg hd1
  change w1.cell? _ = some (.int .u32 s.rd) at qd
  generalize s.rd = rd at *
  generalize s.i.d.toNat = d at *
  have hdi : (d : Int) < 16 := by omega
  clear hop hdd
  have HD1 : Hid (SpW w1.drew p s) := H1.out.only (S := fun _ => False) ((Only.refl _ _).drew) id
  have HMD : Hid (MW w1.drew m g f) := HM1.out.only (S := fun _ => False) ((Only.refl _ _).drew) id id
  have OD : Hid (Only (fun k => k = p ∨ k = g) w w1.drew) := O1.out.drew
  obtain ⟨rd1, rd2⟩ := HRD.out
  go_wp2_with fail
  go_still_tail 16, (by kernel_rfl)
  change wpList _ _ _ _ _ w1.drew
  go_wp2_with fail
  refine (HW.out _ HMD.out).mono ?_
  rintro e w2 ⟨rfl, h2, o2⟩
  have HZ : Hid (SpW w2 p s) := HD1.out.only o2 hap.2
  have HMZ := Lib.hid h2
  have OZ : Hid (Only (fun k => k = p ∨ k = g) w w2) := OD.out.trans (o2.mono (T := fun k => k = p ∨ k = g) (fun _ _ e => .inr e)) (fun _ _ h => h)
  clear h2 o2 r23 r1 r2 qd
  have z31 := HZ.out.frozen 31
  have z32 := HZ.out.frozen 32
  have z33 := HZ.out.frozen 33
  obtain ⟨_, _, _, _, _, _, _, _, q31, q32, q33⟩ := HZ.out.rest
  go_wp2_with fail
  go_ret
  refine ⟨rfl, ((HZ.out.setTouch a).setCost 2).setFault (!ok), HMZ.out.only (S := fun k => k = p) ((((Only.refl (fun k => k = p) _).setCell (p := ⟨p, 31, none⟩) (.inl rfl) _).setCell (p := ⟨p, 32, none⟩) (.inl rfl) _).setCell (p := ⟨p, 33, none⟩) (.inl rfl) _) (fun e => hap.1 e.symm) (fun e => hap.2 e.symm), ((OZ.out.setCell (p := ⟨p, 31, none⟩) (.inl (.inl rfl)) _).setCell (p := ⟨p, 32, none⟩) (.inl (.inl rfl)) _).setCell (p := ⟨p, 33, none⟩) (.inl (.inl rfl)) _⟩
set_option maxHeartbeats 4000000 in
set_option maxRecDepth 100000 in
theorem mem_32 (w : World) (p m g : Nat) (s : Sp) (f : Nat → Int) (h : SpW w p s) (hi : InsOk s.i) (hm : MW w m g f) (hsm : s.m = .pointer (some ⟨m, 0, none⟩)) (hop : s.i.op = 32) (hk0 : 0 ≤ s.i.imm) (hk1 : s.i.imm ≤ 1020) :
    Calls Try.prog 38 #[.pointer (some ⟨p, 0, none⟩)] w (MemPost p m g (s.memEnd s.addr (setWordS f s.addr s.rd).2) (setWordS f s.addr s.rd).1 w) := by
  have hap := h.apart hm
  obtain ⟨r23, r1, r2, _⟩ := h.rest
  rw [hsm] at r23
  rw [hop] at r1
  have hdd : (s.i.d.toNat : Int) = s.i.d := by have := hi.d0; omega
  have hd1 : s.i.d.toNat < 16 := by have := hi.d1; have := hi.d0; omega
  have HRD : Hid (U s.rd) := h.2.reg hd1
  have HAD := Lib.hid (addr_32 w p s h hi hop hk0 hk1)
  obtain ⟨ua, ub⟩ := addr_U s
  have HFR := Lib.hid hm.range
  have HM := Lib.hid hm
  have H := Lib.hid h
  have HW := Lib.hid (fun (wq : World) (g' : MW wq m g f) => setword_c wq m g f s.addr s.rd g')
  generalize setWordS f s.addr s.rd = wo at *
  obtain ⟨f2, ok⟩ := wo
  dsimp only at HW ⊢
  generalize s.addr = a at *
  clear h hm hi
  go_enter Try.func38, Try.ntmps38
  go_wp2_with fail
  refine (HAD.out).mono ?_
  rintro e w1 ⟨rfl, h1, o1⟩
  have HM1 : Hid (MW w1 m g f) := HM.out.only o1 (fun e => hap.1 e.symm) (fun e => hap.2 e.symm)
  have O1 : Hid (Only (fun k => k = p ∨ k = g) w w1) := o1.mono (fun _ _ e => .inl e)
  have H1 := Lib.hid h1
  clear r23 r1 r2
  obtain ⟨r23, r1, r2, _⟩ := h1.rest
  rw [hsm] at r23
  rw [hop] at r1
  clear h1 o1 HAD
  rw [← hdd] at r2
  have qd := H1.out.reg hd1
  change w1.cell? _ = some (.int .u32 s.rd) at qd
  generalize s.rd = rd at *
  generalize s.i.d.toNat = d at *
  have hdi : (d : Int) < 16 := by omega
  clear hop hdd
  have HD1 : Hid (SpW w1.drew p s) := H1.out.only (S := fun _ => False) ((Only.refl _ _).drew) id
  have HMD : Hid (MW w1.drew m g f) := HM1.out.only (S := fun _ => False) ((Only.refl _ _).drew) id id
  have OD : Hid (Only (fun k => k = p ∨ k = g) w w1.drew) := O1.out.drew
  obtain ⟨rd1, rd2⟩ := HRD.out
  go_wp2_with fail
  go_still_tail 16, (by kernel_rfl)
  change wpList _ _ _ _ _ w1.drew
  go_wp2_with fail
  refine (HW.out _ HMD.out).mono ?_
  rintro e w2 ⟨rfl, h2, o2⟩
  have HZ : Hid (SpW w2 p s) := HD1.out.only o2 hap.2
  have HMZ := Lib.hid h2
  have OZ : Hid (Only (fun k => k = p ∨ k = g) w w2) := OD.out.trans (o2.mono (T := fun k => k = p ∨ k = g) (fun _ _ e => .inr e)) (fun _ _ h => h)
  clear h2 o2 r23 r1 r2 qd
  have z31 := HZ.out.frozen 31
  have z32 := HZ.out.frozen 32
  have z33 := HZ.out.frozen 33
  obtain ⟨_, _, _, _, _, _, _, _, q31, q32, q33⟩ := HZ.out.rest
  go_wp2_with fail
  go_ret
  refine ⟨rfl, ((HZ.out.setTouch a).setCost 2).setFault (!ok), HMZ.out.only (S := fun k => k = p) ((((Only.refl (fun k => k = p) _).setCell (p := ⟨p, 31, none⟩) (.inl rfl) _).setCell (p := ⟨p, 32, none⟩) (.inl rfl) _).setCell (p := ⟨p, 33, none⟩) (.inl rfl) _) (fun e => hap.1 e.symm) (fun e => hap.2 e.symm), ((OZ.out.setCell (p := ⟨p, 31, none⟩) (.inl (.inl rfl)) _).setCell (p := ⟨p, 32, none⟩) (.inl (.inl rfl)) _).setCell (p := ⟨p, 33, none⟩) (.inl (.inl rfl)) _⟩
set_option maxHeartbeats 4000000 in
set_option maxRecDepth 100000 in
theorem mem_36 (w : World) (p m g : Nat) (s : Sp) (f : Nat → Int) (h : SpW w p s) (hi : InsOk s.i) (hm : MW w m g f) (hsm : s.m = .pointer (some ⟨m, 0, none⟩)) (hop : s.i.op = 36) (hk0 : 0 ≤ s.i.imm) (hk1 : s.i.imm ≤ 1020) :
    Calls Try.prog 38 #[.pointer (some ⟨p, 0, none⟩)] w (MemPost p m g (s.memEnd s.addr (setWordS f s.addr s.rd).2) (setWordS f s.addr s.rd).1 w) := by
  have hap := h.apart hm
  obtain ⟨r23, r1, r2, _⟩ := h.rest
  rw [hsm] at r23
  rw [hop] at r1
  have hdd : (s.i.d.toNat : Int) = s.i.d := by have := hi.d0; omega
  have hd1 : s.i.d.toNat < 16 := by have := hi.d1; have := hi.d0; omega
  have HRD : Hid (U s.rd) := h.2.reg hd1
  have HAD := Lib.hid (addr_36 w p s h hi hop hk0 hk1)
  obtain ⟨ua, ub⟩ := addr_U s
  have HFR := Lib.hid hm.range
  have HM := Lib.hid hm
  have H := Lib.hid h
  have HW := Lib.hid (fun (wq : World) (g' : MW wq m g f) => setword_c wq m g f s.addr s.rd g')
  generalize setWordS f s.addr s.rd = wo at *
  obtain ⟨f2, ok⟩ := wo
  dsimp only at HW ⊢
  generalize s.addr = a at *
  clear h hm hi
  go_enter Try.func38, Try.ntmps38
  go_wp2_with fail
  refine (HAD.out).mono ?_
  rintro e w1 ⟨rfl, h1, o1⟩
  have HM1 : Hid (MW w1 m g f) := HM.out.only o1 (fun e => hap.1 e.symm) (fun e => hap.2 e.symm)
  have O1 : Hid (Only (fun k => k = p ∨ k = g) w w1) := o1.mono (fun _ _ e => .inl e)
  have H1 := Lib.hid h1
  clear r23 r1 r2
  obtain ⟨r23, r1, r2, _⟩ := h1.rest
  rw [hsm] at r23
  rw [hop] at r1
  clear h1 o1 HAD
  rw [← hdd] at r2
  have qd := H1.out.reg hd1
  change w1.cell? _ = some (.int .u32 s.rd) at qd
  generalize s.rd = rd at *
  generalize s.i.d.toNat = d at *
  have hdi : (d : Int) < 16 := by omega
  clear hop hdd
  have HD1 : Hid (SpW w1.drew p s) := H1.out.only (S := fun _ => False) ((Only.refl _ _).drew) id
  have HMD : Hid (MW w1.drew m g f) := HM1.out.only (S := fun _ => False) ((Only.refl _ _).drew) id id
  have OD : Hid (Only (fun k => k = p ∨ k = g) w w1.drew) := O1.out.drew
  obtain ⟨rd1, rd2⟩ := HRD.out
  go_wp2_with fail
  go_still_tail 16, (by kernel_rfl)
  change wpList _ _ _ _ _ w1.drew
  go_wp2_with fail
  refine (HW.out _ HMD.out).mono ?_
  rintro e w2 ⟨rfl, h2, o2⟩
  have HZ : Hid (SpW w2 p s) := HD1.out.only o2 hap.2
  have HMZ := Lib.hid h2
  have OZ : Hid (Only (fun k => k = p ∨ k = g) w w2) := OD.out.trans (o2.mono (T := fun k => k = p ∨ k = g) (fun _ _ e => .inr e)) (fun _ _ h => h)
  clear h2 o2 r23 r1 r2 qd
  have z31 := HZ.out.frozen 31
  have z32 := HZ.out.frozen 32
  have z33 := HZ.out.frozen 33
  obtain ⟨_, _, _, _, _, _, _, _, q31, q32, q33⟩ := HZ.out.rest
  go_wp2_with fail
  go_ret
  refine ⟨rfl, ((HZ.out.setTouch a).setCost 2).setFault (!ok), HMZ.out.only (S := fun k => k = p) ((((Only.refl (fun k => k = p) _).setCell (p := ⟨p, 31, none⟩) (.inl rfl) _).setCell (p := ⟨p, 32, none⟩) (.inl rfl) _).setCell (p := ⟨p, 33, none⟩) (.inl rfl) _) (fun e => hap.1 e.symm) (fun e => hap.2 e.symm), ((OZ.out.setCell (p := ⟨p, 31, none⟩) (.inl (.inl rfl)) _).setCell (p := ⟨p, 32, none⟩) (.inl (.inl rfl)) _).setCell (p := ⟨p, 33, none⟩) (.inl (.inl rfl)) _⟩
set_option maxHeartbeats 4000000 in
set_option maxRecDepth 100000 in
theorem mem_34 (w : World) (p m g : Nat) (s : Sp) (f : Nat → Int) (h : SpW w p s) (hi : InsOk s.i) (hm : MW w m g f) (hsm : s.m = .pointer (some ⟨m, 0, none⟩)) (hop : s.i.op = 34) (hk0 : 0 ≤ s.i.imm) (hk1 : s.i.imm ≤ 1020) :
    Calls Try.prog 38 #[.pointer (some ⟨p, 0, none⟩)] w (MemPost p m g (s.memEnd s.addr (setByteS f s.addr (s.rd % 256)).2) (setByteS f s.addr (s.rd % 256)).1 w) := by
  have hap := h.apart hm
  obtain ⟨r23, r1, r2, _⟩ := h.rest
  rw [hsm] at r23
  rw [hop] at r1
  have hdd : (s.i.d.toNat : Int) = s.i.d := by have := hi.d0; omega
  have hd1 : s.i.d.toNat < 16 := by have := hi.d1; have := hi.d0; omega
  have HRD : Hid (U s.rd) := h.2.reg hd1
  have HAD := Lib.hid (addr_34 w p s h hi hop hk0 hk1)
  obtain ⟨ua, ub⟩ := addr_U s
  have HFR := Lib.hid hm.range
  have HM := Lib.hid hm
  have H := Lib.hid h
  have HW := Lib.hid (fun (wq : World) (g' : MW wq m g f) => setbyte_c wq m g f s.addr (s.rd % 256) (by omega) g')
  generalize setByteS f s.addr (s.rd % 256) = wo at *
  obtain ⟨f2, ok⟩ := wo
  dsimp only at HW ⊢
  generalize s.addr = a at *
  clear h hm hi
  go_enter Try.func38, Try.ntmps38
  go_wp2_with fail
  refine (HAD.out).mono ?_
  rintro e w1 ⟨rfl, h1, o1⟩
  have HM1 : Hid (MW w1 m g f) := HM.out.only o1 (fun e => hap.1 e.symm) (fun e => hap.2 e.symm)
  have O1 : Hid (Only (fun k => k = p ∨ k = g) w w1) := o1.mono (fun _ _ e => .inl e)
  have H1 := Lib.hid h1
  clear r23 r1 r2
  obtain ⟨r23, r1, r2, _⟩ := h1.rest
  rw [hsm] at r23
  rw [hop] at r1
  clear h1 o1 HAD
  rw [← hdd] at r2
  have qd := H1.out.reg hd1
  change w1.cell? _ = some (.int .u32 s.rd) at qd
  generalize s.rd = rd at *
  generalize s.i.d.toNat = d at *
  have hdi : (d : Int) < 16 := by omega
  clear hop hdd
  have HD1 : Hid (SpW w1.drew p s) := H1.out.only (S := fun _ => False) ((Only.refl _ _).drew) id
  have HMD : Hid (MW w1.drew m g f) := HM1.out.only (S := fun _ => False) ((Only.refl _ _).drew) id id
  have OD : Hid (Only (fun k => k = p ∨ k = g) w w1.drew) := O1.out.drew
  obtain ⟨rd1, rd2⟩ := HRD.out
  go_wp2_with fail
  go_still_tail 17, (by kernel_rfl)
  change wpList _ _ _ _ _ w1.drew
  go_wp2_with fail
  refine (HW.out _ HMD.out).mono ?_
  rintro e w2 ⟨rfl, h2, o2⟩
  have HZ : Hid (SpW w2 p s) := HD1.out.only o2 hap.2
  have HMZ := Lib.hid h2
  have OZ : Hid (Only (fun k => k = p ∨ k = g) w w2) := OD.out.trans (o2.mono (T := fun k => k = p ∨ k = g) (fun _ _ e => .inr e)) (fun _ _ h => h)
  clear h2 o2 r23 r1 r2 qd
  have z31 := HZ.out.frozen 31
  have z32 := HZ.out.frozen 32
  have z33 := HZ.out.frozen 33
  obtain ⟨_, _, _, _, _, _, _, _, q31, q32, q33⟩ := HZ.out.rest
  go_wp2_with fail
  go_ret
  refine ⟨rfl, ((HZ.out.setTouch a).setCost 2).setFault (!ok), HMZ.out.only (S := fun k => k = p) ((((Only.refl (fun k => k = p) _).setCell (p := ⟨p, 31, none⟩) (.inl rfl) _).setCell (p := ⟨p, 32, none⟩) (.inl rfl) _).setCell (p := ⟨p, 33, none⟩) (.inl rfl) _) (fun e => hap.1 e.symm) (fun e => hap.2 e.symm), ((OZ.out.setCell (p := ⟨p, 31, none⟩) (.inl (.inl rfl)) _).setCell (p := ⟨p, 32, none⟩) (.inl (.inl rfl)) _).setCell (p := ⟨p, 33, none⟩) (.inl (.inl rfl)) _⟩
set_option maxHeartbeats 4000000 in
set_option maxRecDepth 100000 in
theorem memory_no (w : World) (p : Nat) (s : Sp) (h : SpW w p s) (hi : InsOk s.i) (e29 : s.i.op ≠ 29) (e31 : s.i.op ≠ 31) (e35 : s.i.op ≠ 35) (e33 : s.i.op ≠ 33) (e30 : s.i.op ≠ 30) (e32 : s.i.op ≠ 32) (e36 : s.i.op ≠ 36) (e34 : s.i.op ≠ 34) :
    Calls Try.prog 38 #[.pointer (some ⟨p, 0, none⟩)] w fun e w' => e = .returned (.bool false) ∧ SpW w' p s ∧ Only (fun k => k = p) w w' := by
  have HAD := Lib.hid (addr_no w p s h hi e29 e30 e35 e36)
  have t29 : (s.i.op == 29) = false := by simp [e29]
  have t31 : (s.i.op == 31) = false := by simp [e31]
  have t35 : (s.i.op == 35) = false := by simp [e35]
  have t33 : (s.i.op == 33) = false := by simp [e33]
  have t30 : (s.i.op == 30) = false := by simp [e30]
  have t32 : (s.i.op == 32) = false := by simp [e32]
  have t36 : (s.i.op == 36) = false := by simp [e36]
  have t34 : (s.i.op == 34) = false := by simp [e34]
  obtain ⟨op, hop⟩ : ∃ op, s.i.op = op := ⟨_, rfl⟩
  rw [hop] at t29 t31 t35 t33 t30 t32 t36 t34
  clear h hi e29 e31 e35 e33 e30 e32 e36 e34
  go_enter Try.func38, Try.ntmps38
  go_wp2_with fail
  refine (HAD.out).mono ?_
  rintro e w1 ⟨⟨a, rfl, ua, ub⟩, h1, o1⟩
  obtain ⟨_, r1, _⟩ := h1.rest
  have H1 := Lib.hid h1
  have O1 := Lib.hid o1
  rw [hop] at r1
  clear h1 o1 HAD hop
  go_wp2_with fail
  go_ret
  exact ⟨rfl, H1.out, O1.out⟩
end Go.Proofs.Ytpihjhfaeloapaa
