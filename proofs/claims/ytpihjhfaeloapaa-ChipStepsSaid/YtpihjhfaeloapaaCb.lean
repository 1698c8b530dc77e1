/- The chip's step: bitwise. PRINTED by gencb.py. -/
import Derived.Test.YtpihjhfaeloapaaCu
namespace Go.Proofs.Ytpihjhfaeloapaa
open Go.RowKit On Th
theorem and_U {a b : Int} (ha : U a) (hb : U b) : U (bits .and .u32 a b) := by
  rw [u32_and _ _ ha.1 ha.2 hb.1 hb.2]
  have : a.toNat &&& b.toNat ≤ a.toNat := Nat.and_le_left
  unfold U at *; omega
theorem or_U {a b : Int} (ha : U a) (hb : U b) : U (bits .or .u32 a b) := by
  rw [u32_or _ _ ha.1 ha.2 hb.1 hb.2]
  have : a.toNat ||| b.toNat < 2 ^ 32 := Nat.or_lt_two_pow (by unfold U at *; omega) (by unfold U at *; omega)
  unfold U at *; omega
theorem xor_U {a b : Int} (ha : U a) (hb : U b) : U (bits .xor .u32 a b) := by
  rw [u32_xor _ _ ha.1 ha.2 hb.1 hb.2]
  have : a.toNat ^^^ b.toNat < 2 ^ 32 := Nat.xor_lt_two_pow (by unfold U at *; omega) (by unfold U at *; omega)
  unfold U at *; omega
theorem andNot_U {a b : Int} (ha : U a) (hb : U b) : U (bits .andNot .u32 a b) := by
  rw [u32_andNot _ _ ha.1 ha.2 hb.1 hb.2]
  have : a.toNat &&& (4294967295 - b.toNat) ≤ a.toNat := Nat.and_le_left
  unfold U at *; omega
theorem and255_32 {a : Int} (ha : U a) : bits .and .u32 a 255 = a % 256 := by
  rw [u32_and _ _ ha.1 ha.2 (by decide) (by decide), show (255 : Int).toNat = 255 from rfl, nat_mask8]
  unfold U at *; omega
set_option maxHeartbeats 4000000 in
set_option maxRecDepth 100000 in
theorem bit_8 (w : World) (p : Nat) (s : Sp) (h : SpW w p s) (hi : InsOk s.i) (hop : s.i.op = 8) (hk0 : 0 ≤ s.i.imm) (hk1 : s.i.imm ≤ 255) :
    Calls Try.prog 37 #[.pointer (some ⟨p, 0, none⟩)] w fun e w' => e = .returned (.bool true) ∧ SpW w' p ((s.sign s.i.imm).setR s.i.d.toNat s.i.imm) ∧ Only (fun k => k = p) w w' := by
  obtain ⟨_, r1, r2, r3, r4, r5, r6, _⟩ := h.rest
  obtain ⟨_, _, f2, _⟩ := h.flags
  rw [hop] at r1
  have hdd : (s.i.d.toNat : Int) = s.i.d := by have := hi.d0; omega
  have hnn : (s.i.n.toNat : Int) = s.i.n := by have := hi.n0; omega
  have hmm : (s.i.m.toNat : Int) = s.i.m := by have := hi.m0; omega
  have hd1 : s.i.d.toNat < 16 := by have := hi.d1; have := hi.d0; omega
  have hn1 : s.i.n.toNat < 16 := by have := hi.n1; have := hi.n0; omega
  have hm1 : s.i.m.toNat < 16 := by have := hi.m1; have := hi.m0; omega
  have qd := h.reg hd1
  have qn := h.reg hn1
  have qm := h.reg hm1
  have HRD : Hid (U s.rd) := h.2.reg hd1
  have HRN : Hid (U s.rn) := h.2.reg hn1
  have HRM : Hid (U s.rm) := h.2.reg hm1
  have H := Lib.hid h
  have HU : Hid (U s.i.imm) := by show U _; unfold U; omega
  have HS := Lib.hid (fun (wq : World) (g : SpW wq p s) => sign_c wq p s g s.i.imm HU.out)
  have HT := Lib.hid (fun (wq : World) (g : SpW wq p (s.sign s.i.imm)) => set_c wq p _ g s.i.d.toNat hdd.symm hd1 s.i.imm HU.out)
  clear hop
  rw [← hdd] at r2
  rw [← hnn] at r3
  rw [← hmm] at r4
  change w.cell? _ = some (.int .u32 s.rd) at qd
  change w.cell? _ = some (.int .u32 s.rn) at qn
  change w.cell? _ = some (.int .u32 s.rm) at qm
  obtain ⟨rd1, rd2⟩ := HRD.out
  obtain ⟨rn1, rn2⟩ := HRN.out
  obtain ⟨rm1, rm2⟩ := HRM.out
  generalize s.rd = rd at *
  generalize s.rn = rn at *
  generalize s.rm = rm at *
  generalize s.i.imm = imm at *
  generalize s.i.d.toNat = d at *
  generalize s.i.n.toNat = n at *
  generalize s.i.m.toNat = m at *
  generalize s.i.cond = cond at *
  clear hdd hnn hmm hi h
  have hdi : (d : Int) < 16 := by omega
  have hni : (n : Int) < 16 := by omega
  have hmi : (m : Int) < 16 := by omega
  have hlt := H.out.lt
  obtain ⟨wn, hwn⟩ : ∃ wn, wn = w.alloc (.cells #[.int .i64 8, .int .i64 d, .int .i64 n, .int .i64 m, .int .i64 imm, .int .i64 cond] 36) := ⟨_, rfl⟩
  obtain ⟨X, hX⟩ : ∃ X, X = w.heap.size := ⟨_, rfl⟩
  have kb : Blk wn X 36 #[.int .i64 8, .int .i64 d, .int .i64 n, .int .i64 m, .int .i64 imm, .int .i64 cond] := by rw [hwn, hX]; exact Blk.new _ _ _
  have HON : Hid (Only (fun k => k = p) w wn) := by rw [hwn]; exact (Only.refl _ _).alloc _
  have HSN : Hid (SpW wn p s) := H.out.only (S := fun _ => False) (by rw [hwn]; exact (Only.refl _ _).alloc _) id
  have tr : ∀ (k : Nat) (v : Value), w.cell? ⟨p, k, none⟩ = some v → wn.cell? ⟨p, k, none⟩ = some v := fun k v e => by
    rw [((by rw [hwn]; exact (Only.refl _ _).alloc _ : Only (fun _ => False) w wn)).cell (p := ⟨p, k, none⟩) hlt id]; exact e
  have pd := tr _ _ qd; have pn := tr _ _ qn; have pm := tr _ _ qm
  have b0 := kb.cell 0
  have b1 := kb.cell 1
  have b2 := kb.cell 2
  have b3 := kb.cell 3
  have b4 := kb.cell 4
  simp at b0 b1 b2 b3 b4
  go_enter Try.func37, Try.ntmps37
  go_wp2_with fail
  rw [← hwn, ← hX]
  clear hwn hX qd qn qm f2 r1 r2 r3 r4 r5 r6 tr hlt kb
  go_quiet (fail)
  obtain ⟨wq, hwq⟩ : ∃ wq, wq = wn.drewN nq := ⟨_, rfl⟩
  have HQ : Hid (SpW wq p s) := by rw [hwq]; exact HSN.out.only (S := fun _ => False) ((Only.refl _ _).drewN _) id
  have HOQ : Hid (Only (fun k => k = p) w wq) := by rw [hwq]; exact HON.out.drewN _
  have c0 : wq.cell? ⟨X, 0, none⟩ = some (.int .i64 8) := by rw [hwq]; exact b0
  have c4 : wq.cell? ⟨X, 4, none⟩ = some (.int .i64 imm) := by rw [hwq]; exact b4
  rw [← hwq]
  clear hwq b0 b1 b2 b3 b4 pd pn pm
  go_wp2_with fail
  refine (HS.out _ HQ.out).mono ?_
  rintro e w1 ⟨rfl, h1, o1⟩
  have H1 := Lib.hid h1
  have O1 := Lib.hid (HOQ.out.trans o1 (fun _ _ h => h))
  clear h1 o1 c0 c4
  go_wp2_with fail
  refine (HT.out _ H1.out).mono ?_
  rintro e w2 ⟨rfl, h2, o2⟩
  have H2 := Lib.hid h2
  have O2 := Lib.hid (O1.out.trans o2 (fun _ _ h => h))
  clear h2 o2
  go_wp2_with fail
  go_ret
  exact ⟨rfl, H2.out, O2.out⟩
set_option maxHeartbeats 4000000 in
set_option maxRecDepth 100000 in
theorem bit_12 (w : World) (p : Nat) (s : Sp) (h : SpW w p s) (hi : InsOk s.i) (hop : s.i.op = 12) :
    Calls Try.prog 37 #[.pointer (some ⟨p, 0, none⟩)] w fun e w' => e = .returned (.bool true) ∧ SpW w' p ((s.sign (bits .and .u32 s.rd s.rm)).setR s.i.d.toNat (bits .and .u32 s.rd s.rm)) ∧ Only (fun k => k = p) w w' := by
  obtain ⟨_, r1, r2, r3, r4, r5, r6, _⟩ := h.rest
  obtain ⟨_, _, f2, _⟩ := h.flags
  rw [hop] at r1
  have hdd : (s.i.d.toNat : Int) = s.i.d := by have := hi.d0; omega
  have hnn : (s.i.n.toNat : Int) = s.i.n := by have := hi.n0; omega
  have hmm : (s.i.m.toNat : Int) = s.i.m := by have := hi.m0; omega
  have hd1 : s.i.d.toNat < 16 := by have := hi.d1; have := hi.d0; omega
  have hn1 : s.i.n.toNat < 16 := by have := hi.n1; have := hi.n0; omega
  have hm1 : s.i.m.toNat < 16 := by have := hi.m1; have := hi.m0; omega
  have qd := h.reg hd1
  have qn := h.reg hn1
  have qm := h.reg hm1
  have HRD : Hid (U s.rd) := h.2.reg hd1
  have HRN : Hid (U s.rn) := h.2.reg hn1
  have HRM : Hid (U s.rm) := h.2.reg hm1
  have H := Lib.hid h
  have HU : Hid (U (bits .and .u32 s.rd s.rm)) := and_U HRD.out HRM.out
  have HS := Lib.hid (fun (wq : World) (g : SpW wq p s) => sign_c wq p s g (bits .and .u32 s.rd s.rm) HU.out)
  have HT := Lib.hid (fun (wq : World) (g : SpW wq p (s.sign (bits .and .u32 s.rd s.rm))) => set_c wq p _ g s.i.d.toNat hdd.symm hd1 (bits .and .u32 s.rd s.rm) HU.out)
  clear hop
  rw [← hdd] at r2
  rw [← hnn] at r3
  rw [← hmm] at r4
  change w.cell? _ = some (.int .u32 s.rd) at qd
  change w.cell? _ = some (.int .u32 s.rn) at qn
  change w.cell? _ = some (.int .u32 s.rm) at qm
  obtain ⟨rd1, rd2⟩ := HRD.out
  obtain ⟨rn1, rn2⟩ := HRN.out
  obtain ⟨rm1, rm2⟩ := HRM.out
  generalize s.rd = rd at *
  generalize s.rn = rn at *
  generalize s.rm = rm at *
  generalize s.i.imm = imm at *
  generalize s.i.d.toNat = d at *
  generalize s.i.n.toNat = n at *
  generalize s.i.m.toNat = m at *
  generalize s.i.cond = cond at *
  clear hdd hnn hmm hi h
  have hdi : (d : Int) < 16 := by omega
  have hni : (n : Int) < 16 := by omega
  have hmi : (m : Int) < 16 := by omega
  have hlt := H.out.lt
  obtain ⟨wn, hwn⟩ : ∃ wn, wn = w.alloc (.cells #[.int .i64 12, .int .i64 d, .int .i64 n, .int .i64 m, .int .i64 imm, .int .i64 cond] 36) := ⟨_, rfl⟩
  obtain ⟨X, hX⟩ : ∃ X, X = w.heap.size := ⟨_, rfl⟩
  have kb : Blk wn X 36 #[.int .i64 12, .int .i64 d, .int .i64 n, .int .i64 m, .int .i64 imm, .int .i64 cond] := by rw [hwn, hX]; exact Blk.new _ _ _
  have HON : Hid (Only (fun k => k = p) w wn) := by rw [hwn]; exact (Only.refl _ _).alloc _
  have HSN : Hid (SpW wn p s) := H.out.only (S := fun _ => False) (by rw [hwn]; exact (Only.refl _ _).alloc _) id
  have tr : ∀ (k : Nat) (v : Value), w.cell? ⟨p, k, none⟩ = some v → wn.cell? ⟨p, k, none⟩ = some v := fun k v e => by
    rw [((by rw [hwn]; exact (Only.refl _ _).alloc _ : Only (fun _ => False) w wn)).cell (p := ⟨p, k, none⟩) hlt id]; exact e
  have pd := tr _ _ qd; have pn := tr _ _ qn; have pm := tr _ _ qm
  have b0 := kb.cell 0
  have b1 := kb.cell 1
  have b2 := kb.cell 2
  have b3 := kb.cell 3
  have b4 := kb.cell 4
  simp at b0 b1 b2 b3 b4
  go_enter Try.func37, Try.ntmps37
  go_wp2_with fail
  rw [← hwn, ← hX]
  clear hwn hX qd qn qm f2 r1 r2 r3 r4 r5 r6 tr hlt kb
  go_quiet (fail)
  obtain ⟨wq, hwq⟩ : ∃ wq, wq = wn.drewN nq := ⟨_, rfl⟩
  have HQ : Hid (SpW wq p s) := by rw [hwq]; exact HSN.out.only (S := fun _ => False) ((Only.refl _ _).drewN _) id
  have HOQ : Hid (Only (fun k => k = p) w wq) := by rw [hwq]; exact HON.out.drewN _
  have c0 : wq.cell? ⟨X, 0, none⟩ = some (.int .i64 12) := by rw [hwq]; exact b0
  have c4 : wq.cell? ⟨X, 4, none⟩ = some (.int .i64 imm) := by rw [hwq]; exact b4
  rw [← hwq]
  clear hwq b0 b1 b2 b3 b4 pd pn pm
  go_wp2_with fail
  refine (HS.out _ HQ.out).mono ?_
  rintro e w1 ⟨rfl, h1, o1⟩
  have H1 := Lib.hid h1
  have O1 := Lib.hid (HOQ.out.trans o1 (fun _ _ h => h))
  clear h1 o1 c0 c4
  go_wp2_with fail
  refine (HT.out _ H1.out).mono ?_
  rintro e w2 ⟨rfl, h2, o2⟩
  have H2 := Lib.hid h2
  have O2 := Lib.hid (O1.out.trans o2 (fun _ _ h => h))
  clear h2 o2
  go_wp2_with fail
  go_ret
  exact ⟨rfl, H2.out, O2.out⟩
set_option maxHeartbeats 4000000 in
set_option maxRecDepth 100000 in
theorem bit_13 (w : World) (p : Nat) (s : Sp) (h : SpW w p s) (hi : InsOk s.i) (hop : s.i.op = 13) :
    Calls Try.prog 37 #[.pointer (some ⟨p, 0, none⟩)] w fun e w' => e = .returned (.bool true) ∧ SpW w' p ((s.sign (bits .xor .u32 s.rd s.rm)).setR s.i.d.toNat (bits .xor .u32 s.rd s.rm)) ∧ Only (fun k => k = p) w w' := by
  obtain ⟨_, r1, r2, r3, r4, r5, r6, _⟩ := h.rest
  obtain ⟨_, _, f2, _⟩ := h.flags
  rw [hop] at r1
  have hdd : (s.i.d.toNat : Int) = s.i.d := by have := hi.d0; omega
  have hnn : (s.i.n.toNat : Int) = s.i.n := by have := hi.n0; omega
  have hmm : (s.i.m.toNat : Int) = s.i.m := by have := hi.m0; omega
  have hd1 : s.i.d.toNat < 16 := by have := hi.d1; have := hi.d0; omega
  have hn1 : s.i.n.toNat < 16 := by have := hi.n1; have := hi.n0; omega
  have hm1 : s.i.m.toNat < 16 := by have := hi.m1; have := hi.m0; omega
  have qd := h.reg hd1
  have qn := h.reg hn1
  have qm := h.reg hm1
  have HRD : Hid (U s.rd) := h.2.reg hd1
  have HRN : Hid (U s.rn) := h.2.reg hn1
  have HRM : Hid (U s.rm) := h.2.reg hm1
  have H := Lib.hid h
  have HU : Hid (U (bits .xor .u32 s.rd s.rm)) := xor_U HRD.out HRM.out
  have HS := Lib.hid (fun (wq : World) (g : SpW wq p s) => sign_c wq p s g (bits .xor .u32 s.rd s.rm) HU.out)
  have HT := Lib.hid (fun (wq : World) (g : SpW wq p (s.sign (bits .xor .u32 s.rd s.rm))) => set_c wq p _ g s.i.d.toNat hdd.symm hd1 (bits .xor .u32 s.rd s.rm) HU.out)
  clear hop
  rw [← hdd] at r2
  rw [← hnn] at r3
  rw [← hmm] at r4
  change w.cell? _ = some (.int .u32 s.rd) at qd
  change w.cell? _ = some (.int .u32 s.rn) at qn
  change w.cell? _ = some (.int .u32 s.rm) at qm
  obtain ⟨rd1, rd2⟩ := HRD.out
  obtain ⟨rn1, rn2⟩ := HRN.out
  obtain ⟨rm1, rm2⟩ := HRM.out
  generalize s.rd = rd at *
  generalize s.rn = rn at *
  generalize s.rm = rm at *
  generalize s.i.imm = imm at *
  generalize s.i.d.toNat = d at *
  generalize s.i.n.toNat = n at *
  generalize s.i.m.toNat = m at *
  generalize s.i.cond = cond at *
  clear hdd hnn hmm hi h
  have hdi : (d : Int) < 16 := by omega
  have hni : (n : Int) < 16 := by omega
  have hmi : (m : Int) < 16 := by omega
  have hlt := H.out.lt
  obtain ⟨wn, hwn⟩ : ∃ wn, wn = w.alloc (.cells #[.int .i64 13, .int .i64 d, .int .i64 n, .int .i64 m, .int .i64 imm, .int .i64 cond] 36) := ⟨_, rfl⟩
  obtain ⟨X, hX⟩ : ∃ X, X = w.heap.size := ⟨_, rfl⟩
  have kb : Blk wn X 36 #[.int .i64 13, .int .i64 d, .int .i64 n, .int .i64 m, .int .i64 imm, .int .i64 cond] := by rw [hwn, hX]; exact Blk.new _ _ _
  have HON : Hid (Only (fun k => k = p) w wn) := by rw [hwn]; exact (Only.refl _ _).alloc _
  have HSN : Hid (SpW wn p s) := H.out.only (S := fun _ => False) (by rw [hwn]; exact (Only.refl _ _).alloc _) id
  have tr : ∀ (k : Nat) (v : Value), w.cell? ⟨p, k, none⟩ = some v → wn.cell? ⟨p, k, none⟩ = some v := fun k v e => by
    rw [((by rw [hwn]; exact (Only.refl _ _).alloc _ : Only (fun _ => False) w wn)).cell (p := ⟨p, k, none⟩) hlt id]; exact e
  have pd := tr _ _ qd; have pn := tr _ _ qn; have pm := tr _ _ qm
  have b0 := kb.cell 0
  have b1 := kb.cell 1
  have b2 := kb.cell 2
  have b3 := kb.cell 3
  have b4 := kb.cell 4
  simp at b0 b1 b2 b3 b4
  go_enter Try.func37, Try.ntmps37
  go_wp2_with fail
  rw [← hwn, ← hX]
  clear hwn hX qd qn qm f2 r1 r2 r3 r4 r5 r6 tr hlt kb
  go_quiet (fail)
  obtain ⟨wq, hwq⟩ : ∃ wq, wq = wn.drewN nq := ⟨_, rfl⟩
  have HQ : Hid (SpW wq p s) := by rw [hwq]; exact HSN.out.only (S := fun _ => False) ((Only.refl _ _).drewN _) id
  have HOQ : Hid (Only (fun k => k = p) w wq) := by rw [hwq]; exact HON.out.drewN _
  have c0 : wq.cell? ⟨X, 0, none⟩ = some (.int .i64 13) := by rw [hwq]; exact b0
  have c4 : wq.cell? ⟨X, 4, none⟩ = some (.int .i64 imm) := by rw [hwq]; exact b4
  rw [← hwq]
  clear hwq b0 b1 b2 b3 b4 pd pn pm
  go_wp2_with fail
  refine (HS.out _ HQ.out).mono ?_
  rintro e w1 ⟨rfl, h1, o1⟩
  have H1 := Lib.hid h1
  have O1 := Lib.hid (HOQ.out.trans o1 (fun _ _ h => h))
  clear h1 o1 c0 c4
  go_wp2_with fail
  refine (HT.out _ H1.out).mono ?_
  rintro e w2 ⟨rfl, h2, o2⟩
  have H2 := Lib.hid h2
  have O2 := Lib.hid (O1.out.trans o2 (fun _ _ h => h))
  clear h2 o2
  go_wp2_with fail
  go_ret
  exact ⟨rfl, H2.out, O2.out⟩
set_option maxHeartbeats 4000000 in
set_option maxRecDepth 100000 in
theorem bit_24 (w : World) (p : Nat) (s : Sp) (h : SpW w p s) (hi : InsOk s.i) (hop : s.i.op = 24) :
    Calls Try.prog 37 #[.pointer (some ⟨p, 0, none⟩)] w fun e w' => e = .returned (.bool true) ∧ SpW w' p ((s.sign (bits .or .u32 s.rd s.rm)).setR s.i.d.toNat (bits .or .u32 s.rd s.rm)) ∧ Only (fun k => k = p) w w' := by
  obtain ⟨_, r1, r2, r3, r4, r5, r6, _⟩ := h.rest
  obtain ⟨_, _, f2, _⟩ := h.flags
  rw [hop] at r1
  have hdd : (s.i.d.toNat : Int) = s.i.d := by have := hi.d0; omega
  have hnn : (s.i.n.toNat : Int) = s.i.n := by have := hi.n0; omega
  have hmm : (s.i.m.toNat : Int) = s.i.m := by have := hi.m0; omega
  have hd1 : s.i.d.toNat < 16 := by have := hi.d1; have := hi.d0; omega
  have hn1 : s.i.n.toNat < 16 := by have := hi.n1; have := hi.n0; omega
  have hm1 : s.i.m.toNat < 16 := by have := hi.m1; have := hi.m0; omega
  have qd := h.reg hd1
  have qn := h.reg hn1
  have qm := h.reg hm1
  have HRD : Hid (U s.rd) := h.2.reg hd1
  have HRN : Hid (U s.rn) := h.2.reg hn1
  have HRM : Hid (U s.rm) := h.2.reg hm1
  have H := Lib.hid h
  have HU : Hid (U (bits .or .u32 s.rd s.rm)) := or_U HRD.out HRM.out
  have HS := Lib.hid (fun (wq : World) (g : SpW wq p s) => sign_c wq p s g (bits .or .u32 s.rd s.rm) HU.out)
  have HT := Lib.hid (fun (wq : World) (g : SpW wq p (s.sign (bits .or .u32 s.rd s.rm))) => set_c wq p _ g s.i.d.toNat hdd.symm hd1 (bits .or .u32 s.rd s.rm) HU.out)
  clear hop
  rw [← hdd] at r2
  rw [← hnn] at r3
  rw [← hmm] at r4
  change w.cell? _ = some (.int .u32 s.rd) at qd
  change w.cell? _ = some (.int .u32 s.rn) at qn
  change w.cell? _ = some (.int .u32 s.rm) at qm
  obtain ⟨rd1, rd2⟩ := HRD.out
  obtain ⟨rn1, rn2⟩ := HRN.out
  obtain ⟨rm1, rm2⟩ := HRM.out
  generalize s.rd = rd at *
  generalize s.rn = rn at *
  generalize s.rm = rm at *
  generalize s.i.imm = imm at *
  generalize s.i.d.toNat = d at *
  generalize s.i.n.toNat = n at *
  generalize s.i.m.toNat = m at *
  generalize s.i.cond = cond at *
  clear hdd hnn hmm hi h
  have hdi : (d : Int) < 16 := by omega
  have hni : (n : Int) < 16 := by omega
  have hmi : (m : Int) < 16 := by omega
  have hlt := H.out.lt
  obtain ⟨wn, hwn⟩ : ∃ wn, wn = w.alloc (.cells #[.int .i64 24, .int .i64 d, .int .i64 n, .int .i64 m, .int .i64 imm, .int .i64 cond] 36) := ⟨_, rfl⟩
  obtain ⟨X, hX⟩ : ∃ X, X = w.heap.size := ⟨_, rfl⟩
  have kb : Blk wn X 36 #[.int .i64 24, .int .i64 d, .int .i64 n, .int .i64 m, .int .i64 imm, .int .i64 cond] := by rw [hwn, hX]; exact Blk.new _ _ _
  have HON : Hid (Only (fun k => k = p) w wn) := by rw [hwn]; exact (Only.refl _ _).alloc _
  have HSN : Hid (SpW wn p s) := H.out.only (S := fun _ => False) (by rw [hwn]; exact (Only.refl _ _).alloc _) id
  have tr : ∀ (k : Nat) (v : Value), w.cell? ⟨p, k, none⟩ = some v → wn.cell? ⟨p, k, none⟩ = some v := fun k v e => by
    rw [((by rw [hwn]; exact (Only.refl _ _).alloc _ : Only (fun _ => False) w wn)).cell (p := ⟨p, k, none⟩) hlt id]; exact e
  have pd := tr _ _ qd; have pn := tr _ _ qn; have pm := tr _ _ qm
  have b0 := kb.cell 0
  have b1 := kb.cell 1
  have b2 := kb.cell 2
  have b3 := kb.cell 3
  have b4 := kb.cell 4
  simp at b0 b1 b2 b3 b4
  go_enter Try.func37, Try.ntmps37
  go_wp2_with fail
  rw [← hwn, ← hX]
  clear hwn hX qd qn qm f2 r1 r2 r3 r4 r5 r6 tr hlt kb
  go_quiet (fail)
  obtain ⟨wq, hwq⟩ : ∃ wq, wq = wn.drewN nq := ⟨_, rfl⟩
  have HQ : Hid (SpW wq p s) := by rw [hwq]; exact HSN.out.only (S := fun _ => False) ((Only.refl _ _).drewN _) id
  have HOQ : Hid (Only (fun k => k = p) w wq) := by rw [hwq]; exact HON.out.drewN _
  have c0 : wq.cell? ⟨X, 0, none⟩ = some (.int .i64 24) := by rw [hwq]; exact b0
  have c4 : wq.cell? ⟨X, 4, none⟩ = some (.int .i64 imm) := by rw [hwq]; exact b4
  rw [← hwq]
  clear hwq b0 b1 b2 b3 b4 pd pn pm
  go_wp2_with fail
  refine (HS.out _ HQ.out).mono ?_
  rintro e w1 ⟨rfl, h1, o1⟩
  have H1 := Lib.hid h1
  have O1 := Lib.hid (HOQ.out.trans o1 (fun _ _ h => h))
  clear h1 o1 c0 c4
  go_wp2_with fail
  refine (HT.out _ H1.out).mono ?_
  rintro e w2 ⟨rfl, h2, o2⟩
  have H2 := Lib.hid h2
  have O2 := Lib.hid (O1.out.trans o2 (fun _ _ h => h))
  clear h2 o2
  go_wp2_with fail
  go_ret
  exact ⟨rfl, H2.out, O2.out⟩
set_option maxHeartbeats 4000000 in
set_option maxRecDepth 100000 in
theorem bit_25 (w : World) (p : Nat) (s : Sp) (h : SpW w p s) (hi : InsOk s.i) (hop : s.i.op = 25) :
    Calls Try.prog 37 #[.pointer (some ⟨p, 0, none⟩)] w fun e w' => e = .returned (.bool true) ∧ SpW w' p ((s.sign (s.rd * s.rm % 4294967296)).setR s.i.d.toNat (s.rd * s.rm % 4294967296)) ∧ Only (fun k => k = p) w w' := by
  obtain ⟨_, r1, r2, r3, r4, r5, r6, _⟩ := h.rest
  obtain ⟨_, _, f2, _⟩ := h.flags
  rw [hop] at r1
  have hdd : (s.i.d.toNat : Int) = s.i.d := by have := hi.d0; omega
  have hnn : (s.i.n.toNat : Int) = s.i.n := by have := hi.n0; omega
  have hmm : (s.i.m.toNat : Int) = s.i.m := by have := hi.m0; omega
  have hd1 : s.i.d.toNat < 16 := by have := hi.d1; have := hi.d0; omega
  have hn1 : s.i.n.toNat < 16 := by have := hi.n1; have := hi.n0; omega
  have hm1 : s.i.m.toNat < 16 := by have := hi.m1; have := hi.m0; omega
  have qd := h.reg hd1
  have qn := h.reg hn1
  have qm := h.reg hm1
  have HRD : Hid (U s.rd) := h.2.reg hd1
  have HRN : Hid (U s.rn) := h.2.reg hn1
  have HRM : Hid (U s.rm) := h.2.reg hm1
  have H := Lib.hid h
  have HU : Hid (U (s.rd * s.rm % 4294967296)) := by show U _; unfold U; omega
  have HS := Lib.hid (fun (wq : World) (g : SpW wq p s) => sign_c wq p s g (s.rd * s.rm % 4294967296) HU.out)
  have HT := Lib.hid (fun (wq : World) (g : SpW wq p (s.sign (s.rd * s.rm % 4294967296))) => set_c wq p _ g s.i.d.toNat hdd.symm hd1 (s.rd * s.rm % 4294967296) HU.out)
  clear hop
  rw [← hdd] at r2
  rw [← hnn] at r3
  rw [← hmm] at r4
  change w.cell? _ = some (.int .u32 s.rd) at qd
  change w.cell? _ = some (.int .u32 s.rn) at qn
  change w.cell? _ = some (.int .u32 s.rm) at qm
  obtain ⟨rd1, rd2⟩ := HRD.out
  obtain ⟨rn1, rn2⟩ := HRN.out
  obtain ⟨rm1, rm2⟩ := HRM.out
  generalize s.rd = rd at *
  generalize s.rn = rn at *
  generalize s.rm = rm at *
  generalize s.i.imm = imm at *
  generalize s.i.d.toNat = d at *
  generalize s.i.n.toNat = n at *
  generalize s.i.m.toNat = m at *
  generalize s.i.cond = cond at *
  clear hdd hnn hmm hi h
  have hdi : (d : Int) < 16 := by omega
  have hni : (n : Int) < 16 := by omega
  have hmi : (m : Int) < 16 := by omega
  have hlt := H.out.lt
  obtain ⟨wn, hwn⟩ : ∃ wn, wn = w.alloc (.cells #[.int .i64 25, .int .i64 d, .int .i64 n, .int .i64 m, .int .i64 imm, .int .i64 cond] 36) := ⟨_, rfl⟩
  obtain ⟨X, hX⟩ : ∃ X, X = w.heap.size := ⟨_, rfl⟩
  have kb : Blk wn X 36 #[.int .i64 25, .int .i64 d, .int .i64 n, .int .i64 m, .int .i64 imm, .int .i64 cond] := by rw [hwn, hX]; exact Blk.new _ _ _
  have HON : Hid (Only (fun k => k = p) w wn) := by rw [hwn]; exact (Only.refl _ _).alloc _
  have HSN : Hid (SpW wn p s) := H.out.only (S := fun _ => False) (by rw [hwn]; exact (Only.refl _ _).alloc _) id
  have tr : ∀ (k : Nat) (v : Value), w.cell? ⟨p, k, none⟩ = some v → wn.cell? ⟨p, k, none⟩ = some v := fun k v e => by
    rw [((by rw [hwn]; exact (Only.refl _ _).alloc _ : Only (fun _ => False) w wn)).cell (p := ⟨p, k, none⟩) hlt id]; exact e
  have pd := tr _ _ qd; have pn := tr _ _ qn; have pm := tr _ _ qm
  have b0 := kb.cell 0
  have b1 := kb.cell 1
  have b2 := kb.cell 2
  have b3 := kb.cell 3
  have b4 := kb.cell 4
  simp at b0 b1 b2 b3 b4
  go_enter Try.func37, Try.ntmps37
  go_wp2_with fail
  rw [← hwn, ← hX]
  clear hwn hX qd qn qm f2 r1 r2 r3 r4 r5 r6 tr hlt kb
  go_quiet (fail)
  obtain ⟨wq, hwq⟩ : ∃ wq, wq = wn.drewN nq := ⟨_, rfl⟩
  have HQ : Hid (SpW wq p s) := by rw [hwq]; exact HSN.out.only (S := fun _ => False) ((Only.refl _ _).drewN _) id
  have HOQ : Hid (Only (fun k => k = p) w wq) := by rw [hwq]; exact HON.out.drewN _
  have c0 : wq.cell? ⟨X, 0, none⟩ = some (.int .i64 25) := by rw [hwq]; exact b0
  have c4 : wq.cell? ⟨X, 4, none⟩ = some (.int .i64 imm) := by rw [hwq]; exact b4
  rw [← hwq]
  clear hwq b0 b1 b2 b3 b4 pd pn pm
  go_wp2_with fail
  refine (HS.out _ HQ.out).mono ?_
  rintro e w1 ⟨rfl, h1, o1⟩
  have H1 := Lib.hid h1
  have O1 := Lib.hid (HOQ.out.trans o1 (fun _ _ h => h))
  clear h1 o1 c0 c4
  go_wp2_with fail
  refine (HT.out _ H1.out).mono ?_
  rintro e w2 ⟨rfl, h2, o2⟩
  have H2 := Lib.hid h2
  have O2 := Lib.hid (O1.out.trans o2 (fun _ _ h => h))
  clear h2 o2
  go_wp2_with fail
  go_ret
  exact ⟨rfl, H2.out, O2.out⟩
set_option maxHeartbeats 4000000 in
set_option maxRecDepth 100000 in
theorem bit_26 (w : World) (p : Nat) (s : Sp) (h : SpW w p s) (hi : InsOk s.i) (hop : s.i.op = 26) :
    Calls Try.prog 37 #[.pointer (some ⟨p, 0, none⟩)] w fun e w' => e = .returned (.bool true) ∧ SpW w' p ((s.sign (bits .andNot .u32 s.rd s.rm)).setR s.i.d.toNat (bits .andNot .u32 s.rd s.rm)) ∧ Only (fun k => k = p) w w' := by
  obtain ⟨_, r1, r2, r3, r4, r5, r6, _⟩ := h.rest
  obtain ⟨_, _, f2, _⟩ := h.flags
  rw [hop] at r1
  have hdd : (s.i.d.toNat : Int) = s.i.d := by have := hi.d0; omega
  have hnn : (s.i.n.toNat : Int) = s.i.n := by have := hi.n0; omega
  have hmm : (s.i.m.toNat : Int) = s.i.m := by have := hi.m0; omega
  have hd1 : s.i.d.toNat < 16 := by have := hi.d1; have := hi.d0; omega
  have hn1 : s.i.n.toNat < 16 := by have := hi.n1; have := hi.n0; omega
  have hm1 : s.i.m.toNat < 16 := by have := hi.m1; have := hi.m0; omega
  have qd := h.reg hd1
  have qn := h.reg hn1
  have qm := h.reg hm1
  have HRD : Hid (U s.rd) := h.2.reg hd1
  have HRN : Hid (U s.rn) := h.2.reg hn1
  have HRM : Hid (U s.rm) := h.2.reg hm1
  have H := Lib.hid h
  have HU : Hid (U (bits .andNot .u32 s.rd s.rm)) := andNot_U HRD.out HRM.out
  have HS := Lib.hid (fun (wq : World) (g : SpW wq p s) => sign_c wq p s g (bits .andNot .u32 s.rd s.rm) HU.out)
  have HT := Lib.hid (fun (wq : World) (g : SpW wq p (s.sign (bits .andNot .u32 s.rd s.rm))) => set_c wq p _ g s.i.d.toNat hdd.symm hd1 (bits .andNot .u32 s.rd s.rm) HU.out)
  clear hop
  rw [← hdd] at r2
  rw [← hnn] at r3
  rw [← hmm] at r4
  change w.cell? _ = some (.int .u32 s.rd) at qd
  change w.cell? _ = some (.int .u32 s.rn) at qn
  change w.cell? _ = some (.int .u32 s.rm) at qm
  obtain ⟨rd1, rd2⟩ := HRD.out
  obtain ⟨rn1, rn2⟩ := HRN.out
  obtain ⟨rm1, rm2⟩ := HRM.out
  generalize s.rd = rd at *
  generalize s.rn = rn at *
  generalize s.rm = rm at *
  generalize s.i.imm = imm at *
  generalize s.i.d.toNat = d at *
  generalize s.i.n.toNat = n at *
  generalize s.i.m.toNat = m at *
  generalize s.i.cond = cond at *
  clear hdd hnn hmm hi h
  have hdi : (d : Int) < 16 := by omega
  have hni : (n : Int) < 16 := by omega
  have hmi : (m : Int) < 16 := by omega
  have hlt := H.out.lt
  obtain ⟨wn, hwn⟩ : ∃ wn, wn = w.alloc (.cells #[.int .i64 26, .int .i64 d, .int .i64 n, .int .i64 m, .int .i64 imm, .int .i64 cond] 36) := ⟨_, rfl⟩
  obtain ⟨X, hX⟩ : ∃ X, X = w.heap.size := ⟨_, rfl⟩
  have kb : Blk wn X 36 #[.int .i64 26, .int .i64 d, .int .i64 n, .int .i64 m, .int .i64 imm, .int .i64 cond] := by rw [hwn, hX]; exact Blk.new _ _ _
  have HON : Hid (Only (fun k => k = p) w wn) := by rw [hwn]; exact (Only.refl _ _).alloc _
  have HSN : Hid (SpW wn p s) := H.out.only (S := fun _ => False) (by rw [hwn]; exact (Only.refl _ _).alloc _) id
  have tr : ∀ (k : Nat) (v : Value), w.cell? ⟨p, k, none⟩ = some v → wn.cell? ⟨p, k, none⟩ = some v := fun k v e => by
    rw [((by rw [hwn]; exact (Only.refl _ _).alloc _ : Only (fun _ => False) w wn)).cell (p := ⟨p, k, none⟩) hlt id]; exact e
  have pd := tr _ _ qd; have pn := tr _ _ qn; have pm := tr _ _ qm
  have b0 := kb.cell 0
  have b1 := kb.cell 1
  have b2 := kb.cell 2
  have b3 := kb.cell 3
  have b4 := kb.cell 4
  simp at b0 b1 b2 b3 b4
  go_enter Try.func37, Try.ntmps37
  go_wp2_with fail
  rw [← hwn, ← hX]
  clear hwn hX qd qn qm f2 r1 r2 r3 r4 r5 r6 tr hlt kb
  go_quiet (fail)
  obtain ⟨wq, hwq⟩ : ∃ wq, wq = wn.drewN nq := ⟨_, rfl⟩
  have HQ : Hid (SpW wq p s) := by rw [hwq]; exact HSN.out.only (S := fun _ => False) ((Only.refl _ _).drewN _) id
  have HOQ : Hid (Only (fun k => k = p) w wq) := by rw [hwq]; exact HON.out.drewN _
  have c0 : wq.cell? ⟨X, 0, none⟩ = some (.int .i64 26) := by rw [hwq]; exact b0
  have c4 : wq.cell? ⟨X, 4, none⟩ = some (.int .i64 imm) := by rw [hwq]; exact b4
  rw [← hwq]
  clear hwq b0 b1 b2 b3 b4 pd pn pm
  go_wp2_with fail
  refine (HS.out _ HQ.out).mono ?_
  rintro e w1 ⟨rfl, h1, o1⟩
  have H1 := Lib.hid h1
  have O1 := Lib.hid (HOQ.out.trans o1 (fun _ _ h => h))
  clear h1 o1 c0 c4
  go_wp2_with fail
  refine (HT.out _ H1.out).mono ?_
  rintro e w2 ⟨rfl, h2, o2⟩
  have H2 := Lib.hid h2
  have O2 := Lib.hid (O1.out.trans o2 (fun _ _ h => h))
  clear h2 o2
  go_wp2_with fail
  go_ret
  exact ⟨rfl, H2.out, O2.out⟩
set_option maxHeartbeats 4000000 in
set_option maxRecDepth 100000 in
theorem bit_27 (w : World) (p : Nat) (s : Sp) (h : SpW w p s) (hi : InsOk s.i) (hop : s.i.op = 27) :
    Calls Try.prog 37 #[.pointer (some ⟨p, 0, none⟩)] w fun e w' => e = .returned (.bool true) ∧ SpW w' p ((s.sign (4294967295 - s.rm)).setR s.i.d.toNat (4294967295 - s.rm)) ∧ Only (fun k => k = p) w w' := by
  obtain ⟨_, r1, r2, r3, r4, r5, r6, _⟩ := h.rest
  obtain ⟨_, _, f2, _⟩ := h.flags
  rw [hop] at r1
  have hdd : (s.i.d.toNat : Int) = s.i.d := by have := hi.d0; omega
  have hnn : (s.i.n.toNat : Int) = s.i.n := by have := hi.n0; omega
  have hmm : (s.i.m.toNat : Int) = s.i.m := by have := hi.m0; omega
  have hd1 : s.i.d.toNat < 16 := by have := hi.d1; have := hi.d0; omega
  have hn1 : s.i.n.toNat < 16 := by have := hi.n1; have := hi.n0; omega
  have hm1 : s.i.m.toNat < 16 := by have := hi.m1; have := hi.m0; omega
  have qd := h.reg hd1
  have qn := h.reg hn1
  have qm := h.reg hm1
  have HRD : Hid (U s.rd) := h.2.reg hd1
  have HRN : Hid (U s.rn) := h.2.reg hn1
  have HRM : Hid (U s.rm) := h.2.reg hm1
  have H := Lib.hid h
  have HU : Hid (U (4294967295 - s.rm)) := HRM.out.neg
  have HS := Lib.hid (fun (wq : World) (g : SpW wq p s) => sign_c wq p s g (4294967295 - s.rm) HU.out)
  have HT := Lib.hid (fun (wq : World) (g : SpW wq p (s.sign (4294967295 - s.rm))) => set_c wq p _ g s.i.d.toNat hdd.symm hd1 (4294967295 - s.rm) HU.out)
  have HX := Lib.hid (xor_max s.rm HRM.out)
  clear hop
  rw [← hdd] at r2
  rw [← hnn] at r3
  rw [← hmm] at r4
  change w.cell? _ = some (.int .u32 s.rd) at qd
  change w.cell? _ = some (.int .u32 s.rn) at qn
  change w.cell? _ = some (.int .u32 s.rm) at qm
  obtain ⟨rd1, rd2⟩ := HRD.out
  obtain ⟨rn1, rn2⟩ := HRN.out
  obtain ⟨rm1, rm2⟩ := HRM.out
  generalize s.rd = rd at *
  generalize s.rn = rn at *
  generalize s.rm = rm at *
  generalize s.i.imm = imm at *
  generalize s.i.d.toNat = d at *
  generalize s.i.n.toNat = n at *
  generalize s.i.m.toNat = m at *
  generalize s.i.cond = cond at *
  clear hdd hnn hmm hi h
  have hdi : (d : Int) < 16 := by omega
  have hni : (n : Int) < 16 := by omega
  have hmi : (m : Int) < 16 := by omega
  have hlt := H.out.lt
  obtain ⟨wn, hwn⟩ : ∃ wn, wn = w.alloc (.cells #[.int .i64 27, .int .i64 d, .int .i64 n, .int .i64 m, .int .i64 imm, .int .i64 cond] 36) := ⟨_, rfl⟩
  obtain ⟨X, hX⟩ : ∃ X, X = w.heap.size := ⟨_, rfl⟩
  have kb : Blk wn X 36 #[.int .i64 27, .int .i64 d, .int .i64 n, .int .i64 m, .int .i64 imm, .int .i64 cond] := by rw [hwn, hX]; exact Blk.new _ _ _
  have HON : Hid (Only (fun k => k = p) w wn) := by rw [hwn]; exact (Only.refl _ _).alloc _
  have HSN : Hid (SpW wn p s) := H.out.only (S := fun _ => False) (by rw [hwn]; exact (Only.refl _ _).alloc _) id
  have tr : ∀ (k : Nat) (v : Value), w.cell? ⟨p, k, none⟩ = some v → wn.cell? ⟨p, k, none⟩ = some v := fun k v e => by
    rw [((by rw [hwn]; exact (Only.refl _ _).alloc _ : Only (fun _ => False) w wn)).cell (p := ⟨p, k, none⟩) hlt id]; exact e
  have pd := tr _ _ qd; have pn := tr _ _ qn; have pm := tr _ _ qm
  have b0 := kb.cell 0
  have b1 := kb.cell 1
  have b2 := kb.cell 2
  have b3 := kb.cell 3
  have b4 := kb.cell 4
  simp at b0 b1 b2 b3 b4
  go_enter Try.func37, Try.ntmps37
  go_wp2_with fail
  rw [← hwn, ← hX]
  clear hwn hX qd qn qm f2 r1 r2 r3 r4 r5 r6 tr hlt kb
  go_quiet (fail)
  obtain ⟨wq, hwq⟩ : ∃ wq, wq = wn.drewN nq := ⟨_, rfl⟩
  have HQ : Hid (SpW wq p s) := by rw [hwq]; exact HSN.out.only (S := fun _ => False) ((Only.refl _ _).drewN _) id
  have HOQ : Hid (Only (fun k => k = p) w wq) := by rw [hwq]; exact HON.out.drewN _
  have c0 : wq.cell? ⟨X, 0, none⟩ = some (.int .i64 27) := by rw [hwq]; exact b0
  have c4 : wq.cell? ⟨X, 4, none⟩ = some (.int .i64 imm) := by rw [hwq]; exact b4
  rw [← hwq]
  clear hwq b0 b1 b2 b3 b4 pd pn pm
  have hx := HX.out
  go_wp2_with fail
  refine (HS.out _ HQ.out).mono ?_
  rintro e w1 ⟨rfl, h1, o1⟩
  have H1 := Lib.hid h1
  have O1 := Lib.hid (HOQ.out.trans o1 (fun _ _ h => h))
  clear h1 o1 c0 c4
  go_wp2_with fail
  refine (HT.out _ H1.out).mono ?_
  rintro e w2 ⟨rfl, h2, o2⟩
  have H2 := Lib.hid h2
  have O2 := Lib.hid (O1.out.trans o2 (fun _ _ h => h))
  clear h2 o2
  go_wp2_with fail
  go_ret
  exact ⟨rfl, H2.out, O2.out⟩
set_option maxHeartbeats 4000000 in
set_option maxRecDepth 100000 in
theorem bit_20 (w : World) (p : Nat) (s : Sp) (h : SpW w p s) (hi : InsOk s.i) (hop : s.i.op = 20) :
    Calls Try.prog 37 #[.pointer (some ⟨p, 0, none⟩)] w fun e w' => e = .returned (.bool true) ∧ SpW w' p (s.sign (bits .and .u32 s.rd s.rm)) ∧ Only (fun k => k = p) w w' := by
  obtain ⟨_, r1, r2, r3, r4, r5, r6, _⟩ := h.rest
  obtain ⟨_, _, f2, _⟩ := h.flags
  rw [hop] at r1
  have hdd : (s.i.d.toNat : Int) = s.i.d := by have := hi.d0; omega
  have hnn : (s.i.n.toNat : Int) = s.i.n := by have := hi.n0; omega
  have hmm : (s.i.m.toNat : Int) = s.i.m := by have := hi.m0; omega
  have hd1 : s.i.d.toNat < 16 := by have := hi.d1; have := hi.d0; omega
  have hn1 : s.i.n.toNat < 16 := by have := hi.n1; have := hi.n0; omega
  have hm1 : s.i.m.toNat < 16 := by have := hi.m1; have := hi.m0; omega
  have qd := h.reg hd1
  have qn := h.reg hn1
  have qm := h.reg hm1
  have HRD : Hid (U s.rd) := h.2.reg hd1
  have HRN : Hid (U s.rn) := h.2.reg hn1
  have HRM : Hid (U s.rm) := h.2.reg hm1
  have H := Lib.hid h
  have HU : Hid (U (bits .and .u32 s.rd s.rm)) := and_U HRD.out HRM.out
  have HS := Lib.hid (fun (wq : World) (g : SpW wq p s) => sign_c wq p s g (bits .and .u32 s.rd s.rm) HU.out)
  clear hop
  rw [← hdd] at r2
  rw [← hnn] at r3
  rw [← hmm] at r4
  change w.cell? _ = some (.int .u32 s.rd) at qd
  change w.cell? _ = some (.int .u32 s.rn) at qn
  change w.cell? _ = some (.int .u32 s.rm) at qm
  obtain ⟨rd1, rd2⟩ := HRD.out
  obtain ⟨rn1, rn2⟩ := HRN.out
  obtain ⟨rm1, rm2⟩ := HRM.out
  generalize s.rd = rd at *
  generalize s.rn = rn at *
  generalize s.rm = rm at *
  generalize s.i.imm = imm at *
  generalize s.i.d.toNat = d at *
  generalize s.i.n.toNat = n at *
  generalize s.i.m.toNat = m at *
  generalize s.i.cond = cond at *
  clear hdd hnn hmm hi h
  have hdi : (d : Int) < 16 := by omega
  have hni : (n : Int) < 16 := by omega
  have hmi : (m : Int) < 16 := by omega
  have hlt := H.out.lt
  obtain ⟨wn, hwn⟩ : ∃ wn, wn = w.alloc (.cells #[.int .i64 20, .int .i64 d, .int .i64 n, .int .i64 m, .int .i64 imm, .int .i64 cond] 36) := ⟨_, rfl⟩
  obtain ⟨X, hX⟩ : ∃ X, X = w.heap.size := ⟨_, rfl⟩
  have kb : Blk wn X 36 #[.int .i64 20, .int .i64 d, .int .i64 n, .int .i64 m, .int .i64 imm, .int .i64 cond] := by rw [hwn, hX]; exact Blk.new _ _ _
  have HON : Hid (Only (fun k => k = p) w wn) := by rw [hwn]; exact (Only.refl _ _).alloc _
  have HSN : Hid (SpW wn p s) := H.out.only (S := fun _ => False) (by rw [hwn]; exact (Only.refl _ _).alloc _) id
  have tr : ∀ (k : Nat) (v : Value), w.cell? ⟨p, k, none⟩ = some v → wn.cell? ⟨p, k, none⟩ = some v := fun k v e => by
    rw [((by rw [hwn]; exact (Only.refl _ _).alloc _ : Only (fun _ => False) w wn)).cell (p := ⟨p, k, none⟩) hlt id]; exact e
  have pd := tr _ _ qd; have pn := tr _ _ qn; have pm := tr _ _ qm
  have b0 := kb.cell 0
  have b1 := kb.cell 1
  have b2 := kb.cell 2
  have b3 := kb.cell 3
  have b4 := kb.cell 4
  simp at b0 b1 b2 b3 b4
  go_enter Try.func37, Try.ntmps37
  go_wp2_with fail
  rw [← hwn, ← hX]
  clear hwn hX qd qn qm f2 r1 r2 r3 r4 r5 r6 tr hlt kb
  go_quiet (fail)
  obtain ⟨wq, hwq⟩ : ∃ wq, wq = wn.drewN nq := ⟨_, rfl⟩
  have HQ : Hid (SpW wq p s) := by rw [hwq]; exact HSN.out.only (S := fun _ => False) ((Only.refl _ _).drewN _) id
  have HOQ : Hid (Only (fun k => k = p) w wq) := by rw [hwq]; exact HON.out.drewN _
  have c0 : wq.cell? ⟨X, 0, none⟩ = some (.int .i64 20) := by rw [hwq]; exact b0
  have c4 : wq.cell? ⟨X, 4, none⟩ = some (.int .i64 imm) := by rw [hwq]; exact b4
  rw [← hwq]
  clear hwq b0 b1 b2 b3 b4 pd pn pm
  go_wp2_with fail
  refine (HS.out _ HQ.out).mono ?_
  rintro e w1 ⟨rfl, h1, o1⟩
  have H1 := Lib.hid h1
  have O1 := Lib.hid (HOQ.out.trans o1 (fun _ _ h => h))
  clear h1 o1 c0 c4
  go_wp2_with fail
  go_ret
  exact ⟨rfl, H1.out, O1.out⟩
set_option maxHeartbeats 4000000 in
set_option maxRecDepth 100000 in
theorem bit_28 (w : World) (p : Nat) (s : Sp) (h : SpW w p s) (hi : InsOk s.i) (hop : s.i.op = 28) :
    Calls Try.prog 37 #[.pointer (some ⟨p, 0, none⟩)] w fun e w' => e = .returned (.bool true) ∧ SpW w' p (s.setR s.i.d.toNat s.rm) ∧ Only (fun k => k = p) w w' := by
  obtain ⟨_, r1, r2, r3, r4, r5, r6, _⟩ := h.rest
  obtain ⟨_, _, f2, _⟩ := h.flags
  rw [hop] at r1
  have hdd : (s.i.d.toNat : Int) = s.i.d := by have := hi.d0; omega
  have hnn : (s.i.n.toNat : Int) = s.i.n := by have := hi.n0; omega
  have hmm : (s.i.m.toNat : Int) = s.i.m := by have := hi.m0; omega
  have hd1 : s.i.d.toNat < 16 := by have := hi.d1; have := hi.d0; omega
  have hn1 : s.i.n.toNat < 16 := by have := hi.n1; have := hi.n0; omega
  have hm1 : s.i.m.toNat < 16 := by have := hi.m1; have := hi.m0; omega
  have qd := h.reg hd1
  have qn := h.reg hn1
  have qm := h.reg hm1
  have HRD : Hid (U s.rd) := h.2.reg hd1
  have HRN : Hid (U s.rn) := h.2.reg hn1
  have HRM : Hid (U s.rm) := h.2.reg hm1
  have H := Lib.hid h
  have HS := Lib.hid (fun (wq : World) (g : SpW wq p s) => set_c wq p _ g s.i.d.toNat hdd.symm hd1 s.rm HRM.out)
  clear hop
  rw [← hdd] at r2
  rw [← hnn] at r3
  rw [← hmm] at r4
  change w.cell? _ = some (.int .u32 s.rd) at qd
  change w.cell? _ = some (.int .u32 s.rn) at qn
  change w.cell? _ = some (.int .u32 s.rm) at qm
  obtain ⟨rd1, rd2⟩ := HRD.out
  obtain ⟨rn1, rn2⟩ := HRN.out
  obtain ⟨rm1, rm2⟩ := HRM.out
  generalize s.rd = rd at *
  generalize s.rn = rn at *
  generalize s.rm = rm at *
  generalize s.i.imm = imm at *
  generalize s.i.d.toNat = d at *
  generalize s.i.n.toNat = n at *
  generalize s.i.m.toNat = m at *
  generalize s.i.cond = cond at *
  clear hdd hnn hmm hi h
  have hdi : (d : Int) < 16 := by omega
  have hni : (n : Int) < 16 := by omega
  have hmi : (m : Int) < 16 := by omega
  have hlt := H.out.lt
  obtain ⟨wn, hwn⟩ : ∃ wn, wn = w.alloc (.cells #[.int .i64 28, .int .i64 d, .int .i64 n, .int .i64 m, .int .i64 imm, .int .i64 cond] 36) := ⟨_, rfl⟩
  obtain ⟨X, hX⟩ : ∃ X, X = w.heap.size := ⟨_, rfl⟩
  have kb : Blk wn X 36 #[.int .i64 28, .int .i64 d, .int .i64 n, .int .i64 m, .int .i64 imm, .int .i64 cond] := by rw [hwn, hX]; exact Blk.new _ _ _
  have HON : Hid (Only (fun k => k = p) w wn) := by rw [hwn]; exact (Only.refl _ _).alloc _
  have HSN : Hid (SpW wn p s) := H.out.only (S := fun _ => False) (by rw [hwn]; exact (Only.refl _ _).alloc _) id
  have tr : ∀ (k : Nat) (v : Value), w.cell? ⟨p, k, none⟩ = some v → wn.cell? ⟨p, k, none⟩ = some v := fun k v e => by
    rw [((by rw [hwn]; exact (Only.refl _ _).alloc _ : Only (fun _ => False) w wn)).cell (p := ⟨p, k, none⟩) hlt id]; exact e
  have pd := tr _ _ qd; have pn := tr _ _ qn; have pm := tr _ _ qm
  have b0 := kb.cell 0
  have b1 := kb.cell 1
  have b2 := kb.cell 2
  have b3 := kb.cell 3
  have b4 := kb.cell 4
  simp at b0 b1 b2 b3 b4
  go_enter Try.func37, Try.ntmps37
  go_wp2_with fail
  rw [← hwn, ← hX]
  clear hwn hX qd qn qm f2 r1 r2 r3 r4 r5 r6 tr hlt kb
  go_quiet (fail)
  obtain ⟨wq, hwq⟩ : ∃ wq, wq = wn.drewN nq := ⟨_, rfl⟩
  have HQ : Hid (SpW wq p s) := by rw [hwq]; exact HSN.out.only (S := fun _ => False) ((Only.refl _ _).drewN _) id
  have HOQ : Hid (Only (fun k => k = p) w wq) := by rw [hwq]; exact HON.out.drewN _
  have c0 : wq.cell? ⟨X, 0, none⟩ = some (.int .i64 28) := by rw [hwq]; exact b0
  have c4 : wq.cell? ⟨X, 4, none⟩ = some (.int .i64 imm) := by rw [hwq]; exact b4
  rw [← hwq]
  clear hwq b0 b1 b2 b3 b4 pd pn pm
  go_wp2_with fail
  refine (HS.out _ HQ.out).mono ?_
  rintro e w1 ⟨rfl, h1, o1⟩
  have H1 := Lib.hid h1
  have O1 := Lib.hid (HOQ.out.trans o1 (fun _ _ h => h))
  clear h1 o1 c0 c4
  go_wp2_with fail
  go_ret
  exact ⟨rfl, H1.out, O1.out⟩
set_option maxHeartbeats 4000000 in
set_option maxRecDepth 100000 in
theorem bit_1 (w : World) (p : Nat) (s : Sp) (h : SpW w p s) (hi : InsOk s.i) (hop : s.i.op = 1) (hk0 : 0 ≤ s.i.imm) (hk1 : s.i.imm ≤ 32) :
    Calls Try.prog 37 #[.pointer (some ⟨p, 0, none⟩)] w fun e w' => e = .returned (.bool true) ∧ SpW w' p (s.shifted 1 s.rm s.i.imm s.i.d.toNat) ∧ Only (fun k => k = p) w w' := by
  obtain ⟨_, r1, r2, r3, r4, r5, r6, _⟩ := h.rest
  obtain ⟨_, _, f2, _⟩ := h.flags
  rw [hop] at r1
  have hdd : (s.i.d.toNat : Int) = s.i.d := by have := hi.d0; omega
  have hnn : (s.i.n.toNat : Int) = s.i.n := by have := hi.n0; omega
  have hmm : (s.i.m.toNat : Int) = s.i.m := by have := hi.m0; omega
  have hd1 : s.i.d.toNat < 16 := by have := hi.d1; have := hi.d0; omega
  have hn1 : s.i.n.toNat < 16 := by have := hi.n1; have := hi.n0; omega
  have hm1 : s.i.m.toNat < 16 := by have := hi.m1; have := hi.m0; omega
  have qd := h.reg hd1
  have qn := h.reg hn1
  have qm := h.reg hm1
  have HRD : Hid (U s.rd) := h.2.reg hd1
  have HRN : Hid (U s.rn) := h.2.reg hn1
  have HRM : Hid (U s.rm) := h.2.reg hm1
  have H := Lib.hid h
  have HS := Lib.hid (fun (wq : World) (g : SpW wq p s) => shifted_c wq p s g 1 s.rm s.i.imm s.i.d.toNat hop (by unfold isSh; decide) hdd.symm hd1 HRM.out hk0 (by omega))
  clear hop
  rw [← hdd] at r2
  rw [← hnn] at r3
  rw [← hmm] at r4
  change w.cell? _ = some (.int .u32 s.rd) at qd
  change w.cell? _ = some (.int .u32 s.rn) at qn
  change w.cell? _ = some (.int .u32 s.rm) at qm
  obtain ⟨rd1, rd2⟩ := HRD.out
  obtain ⟨rn1, rn2⟩ := HRN.out
  obtain ⟨rm1, rm2⟩ := HRM.out
  generalize s.rd = rd at *
  generalize s.rn = rn at *
  generalize s.rm = rm at *
  generalize s.i.imm = imm at *
  generalize s.i.d.toNat = d at *
  generalize s.i.n.toNat = n at *
  generalize s.i.m.toNat = m at *
  generalize s.i.cond = cond at *
  clear hdd hnn hmm hi h
  have hdi : (d : Int) < 16 := by omega
  have hni : (n : Int) < 16 := by omega
  have hmi : (m : Int) < 16 := by omega
  have hlt := H.out.lt
  obtain ⟨wn, hwn⟩ : ∃ wn, wn = w.alloc (.cells #[.int .i64 1, .int .i64 d, .int .i64 n, .int .i64 m, .int .i64 imm, .int .i64 cond] 36) := ⟨_, rfl⟩
  obtain ⟨X, hX⟩ : ∃ X, X = w.heap.size := ⟨_, rfl⟩
  have kb : Blk wn X 36 #[.int .i64 1, .int .i64 d, .int .i64 n, .int .i64 m, .int .i64 imm, .int .i64 cond] := by rw [hwn, hX]; exact Blk.new _ _ _
  have HON : Hid (Only (fun k => k = p) w wn) := by rw [hwn]; exact (Only.refl _ _).alloc _
  have HSN : Hid (SpW wn p s) := H.out.only (S := fun _ => False) (by rw [hwn]; exact (Only.refl _ _).alloc _) id
  have tr : ∀ (k : Nat) (v : Value), w.cell? ⟨p, k, none⟩ = some v → wn.cell? ⟨p, k, none⟩ = some v := fun k v e => by
    rw [((by rw [hwn]; exact (Only.refl _ _).alloc _ : Only (fun _ => False) w wn)).cell (p := ⟨p, k, none⟩) hlt id]; exact e
  have pd := tr _ _ qd; have pn := tr _ _ qn; have pm := tr _ _ qm
  have b0 := kb.cell 0
  have b1 := kb.cell 1
  have b2 := kb.cell 2
  have b3 := kb.cell 3
  have b4 := kb.cell 4
  simp at b0 b1 b2 b3 b4
  go_enter Try.func37, Try.ntmps37
  go_wp2_with fail
  rw [← hwn, ← hX]
  clear hwn hX qd qn qm f2 r1 r2 r3 r4 r5 r6 tr hlt kb
  go_quiet (fail)
  obtain ⟨wq, hwq⟩ : ∃ wq, wq = wn.drewN nq := ⟨_, rfl⟩
  have HQ : Hid (SpW wq p s) := by rw [hwq]; exact HSN.out.only (S := fun _ => False) ((Only.refl _ _).drewN _) id
  have HOQ : Hid (Only (fun k => k = p) w wq) := by rw [hwq]; exact HON.out.drewN _
  have c0 : wq.cell? ⟨X, 0, none⟩ = some (.int .i64 1) := by rw [hwq]; exact b0
  have c4 : wq.cell? ⟨X, 4, none⟩ = some (.int .i64 imm) := by rw [hwq]; exact b4
  rw [← hwq]
  clear hwq b0 b1 b2 b3 b4 pd pn pm
  go_wp2_with fail
  refine (HS.out _ HQ.out).mono ?_
  rintro e w1 ⟨rfl, h1, o1⟩
  have H1 := Lib.hid h1
  have O1 := Lib.hid (HOQ.out.trans o1 (fun _ _ h => h))
  clear h1 o1 c0 c4
  go_wp2_with fail
  go_ret
  exact ⟨rfl, H1.out, O1.out⟩
set_option maxHeartbeats 4000000 in
set_option maxRecDepth 100000 in
theorem bit_2 (w : World) (p : Nat) (s : Sp) (h : SpW w p s) (hi : InsOk s.i) (hop : s.i.op = 2) (hk0 : 0 ≤ s.i.imm) (hk1 : s.i.imm ≤ 32) :
    Calls Try.prog 37 #[.pointer (some ⟨p, 0, none⟩)] w fun e w' => e = .returned (.bool true) ∧ SpW w' p (s.shifted 2 s.rm s.i.imm s.i.d.toNat) ∧ Only (fun k => k = p) w w' := by
  obtain ⟨_, r1, r2, r3, r4, r5, r6, _⟩ := h.rest
  obtain ⟨_, _, f2, _⟩ := h.flags
  rw [hop] at r1
  have hdd : (s.i.d.toNat : Int) = s.i.d := by have := hi.d0; omega
  have hnn : (s.i.n.toNat : Int) = s.i.n := by have := hi.n0; omega
  have hmm : (s.i.m.toNat : Int) = s.i.m := by have := hi.m0; omega
  have hd1 : s.i.d.toNat < 16 := by have := hi.d1; have := hi.d0; omega
  have hn1 : s.i.n.toNat < 16 := by have := hi.n1; have := hi.n0; omega
  have hm1 : s.i.m.toNat < 16 := by have := hi.m1; have := hi.m0; omega
  have qd := h.reg hd1
  have qn := h.reg hn1
  have qm := h.reg hm1
  have HRD : Hid (U s.rd) := h.2.reg hd1
  have HRN : Hid (U s.rn) := h.2.reg hn1
  have HRM : Hid (U s.rm) := h.2.reg hm1
  have H := Lib.hid h
  have HS := Lib.hid (fun (wq : World) (g : SpW wq p s) => shifted_c wq p s g 2 s.rm s.i.imm s.i.d.toNat hop (by unfold isSh; decide) hdd.symm hd1 HRM.out hk0 (by omega))
  clear hop
  rw [← hdd] at r2
  rw [← hnn] at r3
  rw [← hmm] at r4
  change w.cell? _ = some (.int .u32 s.rd) at qd
  change w.cell? _ = some (.int .u32 s.rn) at qn
  change w.cell? _ = some (.int .u32 s.rm) at qm
  obtain ⟨rd1, rd2⟩ := HRD.out
  obtain ⟨rn1, rn2⟩ := HRN.out
  obtain ⟨rm1, rm2⟩ := HRM.out
  generalize s.rd = rd at *
  generalize s.rn = rn at *
  generalize s.rm = rm at *
  generalize s.i.imm = imm at *
  generalize s.i.d.toNat = d at *
  generalize s.i.n.toNat = n at *
  generalize s.i.m.toNat = m at *
  generalize s.i.cond = cond at *
  clear hdd hnn hmm hi h
  have hdi : (d : Int) < 16 := by omega
  have hni : (n : Int) < 16 := by omega
  have hmi : (m : Int) < 16 := by omega
  have hlt := H.out.lt
  obtain ⟨wn, hwn⟩ : ∃ wn, wn = w.alloc (.cells #[.int .i64 2, .int .i64 d, .int .i64 n, .int .i64 m, .int .i64 imm, .int .i64 cond] 36) := ⟨_, rfl⟩
  obtain ⟨X, hX⟩ : ∃ X, X = w.heap.size := ⟨_, rfl⟩
  have kb : Blk wn X 36 #[.int .i64 2, .int .i64 d, .int .i64 n, .int .i64 m, .int .i64 imm, .int .i64 cond] := by rw [hwn, hX]; exact Blk.new _ _ _
  have HON : Hid (Only (fun k => k = p) w wn) := by rw [hwn]; exact (Only.refl _ _).alloc _
  have HSN : Hid (SpW wn p s) := H.out.only (S := fun _ => False) (by rw [hwn]; exact (Only.refl _ _).alloc _) id
  have tr : ∀ (k : Nat) (v : Value), w.cell? ⟨p, k, none⟩ = some v → wn.cell? ⟨p, k, none⟩ = some v := fun k v e => by
    rw [((by rw [hwn]; exact (Only.refl _ _).alloc _ : Only (fun _ => False) w wn)).cell (p := ⟨p, k, none⟩) hlt id]; exact e
  have pd := tr _ _ qd; have pn := tr _ _ qn; have pm := tr _ _ qm
  have b0 := kb.cell 0
  have b1 := kb.cell 1
  have b2 := kb.cell 2
  have b3 := kb.cell 3
  have b4 := kb.cell 4
  simp at b0 b1 b2 b3 b4
  go_enter Try.func37, Try.ntmps37
  go_wp2_with fail
  rw [← hwn, ← hX]
  clear hwn hX qd qn qm f2 r1 r2 r3 r4 r5 r6 tr hlt kb
  go_quiet (fail)
  obtain ⟨wq, hwq⟩ : ∃ wq, wq = wn.drewN nq := ⟨_, rfl⟩
  have HQ : Hid (SpW wq p s) := by rw [hwq]; exact HSN.out.only (S := fun _ => False) ((Only.refl _ _).drewN _) id
  have HOQ : Hid (Only (fun k => k = p) w wq) := by rw [hwq]; exact HON.out.drewN _
  have c0 : wq.cell? ⟨X, 0, none⟩ = some (.int .i64 2) := by rw [hwq]; exact b0
  have c4 : wq.cell? ⟨X, 4, none⟩ = some (.int .i64 imm) := by rw [hwq]; exact b4
  rw [← hwq]
  clear hwq b0 b1 b2 b3 b4 pd pn pm
  go_wp2_with fail
  refine (HS.out _ HQ.out).mono ?_
  rintro e w1 ⟨rfl, h1, o1⟩
  have H1 := Lib.hid h1
  have O1 := Lib.hid (HOQ.out.trans o1 (fun _ _ h => h))
  clear h1 o1 c0 c4
  go_wp2_with fail
  go_ret
  exact ⟨rfl, H1.out, O1.out⟩
set_option maxHeartbeats 4000000 in
set_option maxRecDepth 100000 in
theorem bit_3 (w : World) (p : Nat) (s : Sp) (h : SpW w p s) (hi : InsOk s.i) (hop : s.i.op = 3) (hk0 : 0 ≤ s.i.imm) (hk1 : s.i.imm ≤ 32) :
    Calls Try.prog 37 #[.pointer (some ⟨p, 0, none⟩)] w fun e w' => e = .returned (.bool true) ∧ SpW w' p (s.shifted 3 s.rm s.i.imm s.i.d.toNat) ∧ Only (fun k => k = p) w w' := by
  obtain ⟨_, r1, r2, r3, r4, r5, r6, _⟩ := h.rest
  obtain ⟨_, _, f2, _⟩ := h.flags
  rw [hop] at r1
  have hdd : (s.i.d.toNat : Int) = s.i.d := by have := hi.d0; omega
  have hnn : (s.i.n.toNat : Int) = s.i.n := by have := hi.n0; omega
  have hmm : (s.i.m.toNat : Int) = s.i.m := by have := hi.m0; omega
  have hd1 : s.i.d.toNat < 16 := by have := hi.d1; have := hi.d0; omega
  have hn1 : s.i.n.toNat < 16 := by have := hi.n1; have := hi.n0; omega
  have hm1 : s.i.m.toNat < 16 := by have := hi.m1; have := hi.m0; omega
  have qd := h.reg hd1
  have qn := h.reg hn1
  have qm := h.reg hm1
  have HRD : Hid (U s.rd) := h.2.reg hd1
  have HRN : Hid (U s.rn) := h.2.reg hn1
  have HRM : Hid (U s.rm) := h.2.reg hm1
  have H := Lib.hid h
  have HS := Lib.hid (fun (wq : World) (g : SpW wq p s) => shifted_c wq p s g 3 s.rm s.i.imm s.i.d.toNat hop (by unfold isSh; decide) hdd.symm hd1 HRM.out hk0 (by omega))
  clear hop
  rw [← hdd] at r2
  rw [← hnn] at r3
  rw [← hmm] at r4
  change w.cell? _ = some (.int .u32 s.rd) at qd
  change w.cell? _ = some (.int .u32 s.rn) at qn
  change w.cell? _ = some (.int .u32 s.rm) at qm
  obtain ⟨rd1, rd2⟩ := HRD.out
  obtain ⟨rn1, rn2⟩ := HRN.out
  obtain ⟨rm1, rm2⟩ := HRM.out
  generalize s.rd = rd at *
  generalize s.rn = rn at *
  generalize s.rm = rm at *
  generalize s.i.imm = imm at *
  generalize s.i.d.toNat = d at *
  generalize s.i.n.toNat = n at *
  generalize s.i.m.toNat = m at *
  generalize s.i.cond = cond at *
  clear hdd hnn hmm hi h
  have hdi : (d : Int) < 16 := by omega
  have hni : (n : Int) < 16 := by omega
  have hmi : (m : Int) < 16 := by omega
  have hlt := H.out.lt
  obtain ⟨wn, hwn⟩ : ∃ wn, wn = w.alloc (.cells #[.int .i64 3, .int .i64 d, .int .i64 n, .int .i64 m, .int .i64 imm, .int .i64 cond] 36) := ⟨_, rfl⟩
  obtain ⟨X, hX⟩ : ∃ X, X = w.heap.size := ⟨_, rfl⟩
  have kb : Blk wn X 36 #[.int .i64 3, .int .i64 d, .int .i64 n, .int .i64 m, .int .i64 imm, .int .i64 cond] := by rw [hwn, hX]; exact Blk.new _ _ _
  have HON : Hid (Only (fun k => k = p) w wn) := by rw [hwn]; exact (Only.refl _ _).alloc _
  have HSN : Hid (SpW wn p s) := H.out.only (S := fun _ => False) (by rw [hwn]; exact (Only.refl _ _).alloc _) id
  have tr : ∀ (k : Nat) (v : Value), w.cell? ⟨p, k, none⟩ = some v → wn.cell? ⟨p, k, none⟩ = some v := fun k v e => by
    rw [((by rw [hwn]; exact (Only.refl _ _).alloc _ : Only (fun _ => False) w wn)).cell (p := ⟨p, k, none⟩) hlt id]; exact e
  have pd := tr _ _ qd; have pn := tr _ _ qn; have pm := tr _ _ qm
  have b0 := kb.cell 0
  have b1 := kb.cell 1
  have b2 := kb.cell 2
  have b3 := kb.cell 3
  have b4 := kb.cell 4
  simp at b0 b1 b2 b3 b4
  go_enter Try.func37, Try.ntmps37
  go_wp2_with fail
  rw [← hwn, ← hX]
  clear hwn hX qd qn qm f2 r1 r2 r3 r4 r5 r6 tr hlt kb
  go_quiet (fail)
  obtain ⟨wq, hwq⟩ : ∃ wq, wq = wn.drewN nq := ⟨_, rfl⟩
  have HQ : Hid (SpW wq p s) := by rw [hwq]; exact HSN.out.only (S := fun _ => False) ((Only.refl _ _).drewN _) id
  have HOQ : Hid (Only (fun k => k = p) w wq) := by rw [hwq]; exact HON.out.drewN _
  have c0 : wq.cell? ⟨X, 0, none⟩ = some (.int .i64 3) := by rw [hwq]; exact b0
  have c4 : wq.cell? ⟨X, 4, none⟩ = some (.int .i64 imm) := by rw [hwq]; exact b4
  rw [← hwq]
  clear hwq b0 b1 b2 b3 b4 pd pn pm
  go_wp2_with fail
  refine (HS.out _ HQ.out).mono ?_
  rintro e w1 ⟨rfl, h1, o1⟩
  have H1 := Lib.hid h1
  have O1 := Lib.hid (HOQ.out.trans o1 (fun _ _ h => h))
  clear h1 o1 c0 c4
  go_wp2_with fail
  go_ret
  exact ⟨rfl, H1.out, O1.out⟩
set_option maxHeartbeats 4000000 in
set_option maxRecDepth 100000 in
theorem bit_14 (w : World) (p : Nat) (s : Sp) (h : SpW w p s) (hi : InsOk s.i) (hop : s.i.op = 14) :
    Calls Try.prog 37 #[.pointer (some ⟨p, 0, none⟩)] w fun e w' => e = .returned (.bool true) ∧ SpW w' p (s.shifted 14 s.rd (s.rm % 256) s.i.d.toNat) ∧ Only (fun k => k = p) w w' := by
  obtain ⟨_, r1, r2, r3, r4, r5, r6, _⟩ := h.rest
  obtain ⟨_, _, f2, _⟩ := h.flags
  rw [hop] at r1
  have hdd : (s.i.d.toNat : Int) = s.i.d := by have := hi.d0; omega
  have hnn : (s.i.n.toNat : Int) = s.i.n := by have := hi.n0; omega
  have hmm : (s.i.m.toNat : Int) = s.i.m := by have := hi.m0; omega
  have hd1 : s.i.d.toNat < 16 := by have := hi.d1; have := hi.d0; omega
  have hn1 : s.i.n.toNat < 16 := by have := hi.n1; have := hi.n0; omega
  have hm1 : s.i.m.toNat < 16 := by have := hi.m1; have := hi.m0; omega
  have qd := h.reg hd1
  have qn := h.reg hn1
  have qm := h.reg hm1
  have HRD : Hid (U s.rd) := h.2.reg hd1
  have HRN : Hid (U s.rn) := h.2.reg hn1
  have HRM : Hid (U s.rm) := h.2.reg hm1
  have H := Lib.hid h
  have HS := Lib.hid (fun (wq : World) (g : SpW wq p s) => shifted_c wq p s g 14 s.rd (s.rm % 256) s.i.d.toNat hop (by unfold isSh; decide) hdd.symm hd1 HRD.out (by omega) (by omega))
  have HX := Lib.hid (and255_32 HRM.out)
  clear hop
  rw [← hdd] at r2
  rw [← hnn] at r3
  rw [← hmm] at r4
  change w.cell? _ = some (.int .u32 s.rd) at qd
  change w.cell? _ = some (.int .u32 s.rn) at qn
  change w.cell? _ = some (.int .u32 s.rm) at qm
  obtain ⟨rd1, rd2⟩ := HRD.out
  obtain ⟨rn1, rn2⟩ := HRN.out
  obtain ⟨rm1, rm2⟩ := HRM.out
  generalize s.rd = rd at *
  generalize s.rn = rn at *
  generalize s.rm = rm at *
  generalize s.i.imm = imm at *
  generalize s.i.d.toNat = d at *
  generalize s.i.n.toNat = n at *
  generalize s.i.m.toNat = m at *
  generalize s.i.cond = cond at *
  clear hdd hnn hmm hi h
  have hdi : (d : Int) < 16 := by omega
  have hni : (n : Int) < 16 := by omega
  have hmi : (m : Int) < 16 := by omega
  have hlt := H.out.lt
  obtain ⟨wn, hwn⟩ : ∃ wn, wn = w.alloc (.cells #[.int .i64 14, .int .i64 d, .int .i64 n, .int .i64 m, .int .i64 imm, .int .i64 cond] 36) := ⟨_, rfl⟩
  obtain ⟨X, hX⟩ : ∃ X, X = w.heap.size := ⟨_, rfl⟩
  have kb : Blk wn X 36 #[.int .i64 14, .int .i64 d, .int .i64 n, .int .i64 m, .int .i64 imm, .int .i64 cond] := by rw [hwn, hX]; exact Blk.new _ _ _
  have HON : Hid (Only (fun k => k = p) w wn) := by rw [hwn]; exact (Only.refl _ _).alloc _
  have HSN : Hid (SpW wn p s) := H.out.only (S := fun _ => False) (by rw [hwn]; exact (Only.refl _ _).alloc _) id
  have tr : ∀ (k : Nat) (v : Value), w.cell? ⟨p, k, none⟩ = some v → wn.cell? ⟨p, k, none⟩ = some v := fun k v e => by
    rw [((by rw [hwn]; exact (Only.refl _ _).alloc _ : Only (fun _ => False) w wn)).cell (p := ⟨p, k, none⟩) hlt id]; exact e
  have pd := tr _ _ qd; have pn := tr _ _ qn; have pm := tr _ _ qm
  have b0 := kb.cell 0
  have b1 := kb.cell 1
  have b2 := kb.cell 2
  have b3 := kb.cell 3
  have b4 := kb.cell 4
  simp at b0 b1 b2 b3 b4
  go_enter Try.func37, Try.ntmps37
  go_wp2_with fail
  rw [← hwn, ← hX]
  clear hwn hX qd qn qm f2 r1 r2 r3 r4 r5 r6 tr hlt kb
  go_quiet (fail)
  obtain ⟨wq, hwq⟩ : ∃ wq, wq = wn.drewN nq := ⟨_, rfl⟩
  have HQ : Hid (SpW wq p s) := by rw [hwq]; exact HSN.out.only (S := fun _ => False) ((Only.refl _ _).drewN _) id
  have HOQ : Hid (Only (fun k => k = p) w wq) := by rw [hwq]; exact HON.out.drewN _
  have c0 : wq.cell? ⟨X, 0, none⟩ = some (.int .i64 14) := by rw [hwq]; exact b0
  have c4 : wq.cell? ⟨X, 4, none⟩ = some (.int .i64 imm) := by rw [hwq]; exact b4
  rw [← hwq]
  clear hwq b0 b1 b2 b3 b4 pd pn pm
  have hx := HX.out
  go_wp2_with fail
  refine (HS.out _ HQ.out).mono ?_
  rintro e w1 ⟨rfl, h1, o1⟩
  have H1 := Lib.hid h1
  have O1 := Lib.hid (HOQ.out.trans o1 (fun _ _ h => h))
  clear h1 o1 c0 c4
  go_wp2_with fail
  go_ret
  exact ⟨rfl, H1.out, O1.out⟩
set_option maxHeartbeats 4000000 in
set_option maxRecDepth 100000 in
theorem bit_15 (w : World) (p : Nat) (s : Sp) (h : SpW w p s) (hi : InsOk s.i) (hop : s.i.op = 15) :
    Calls Try.prog 37 #[.pointer (some ⟨p, 0, none⟩)] w fun e w' => e = .returned (.bool true) ∧ SpW w' p (s.shifted 15 s.rd (s.rm % 256) s.i.d.toNat) ∧ Only (fun k => k = p) w w' := by
  obtain ⟨_, r1, r2, r3, r4, r5, r6, _⟩ := h.rest
  obtain ⟨_, _, f2, _⟩ := h.flags
  rw [hop] at r1
  have hdd : (s.i.d.toNat : Int) = s.i.d := by have := hi.d0; omega
  have hnn : (s.i.n.toNat : Int) = s.i.n := by have := hi.n0; omega
  have hmm : (s.i.m.toNat : Int) = s.i.m := by have := hi.m0; omega
  have hd1 : s.i.d.toNat < 16 := by have := hi.d1; have := hi.d0; omega
  have hn1 : s.i.n.toNat < 16 := by have := hi.n1; have := hi.n0; omega
  have hm1 : s.i.m.toNat < 16 := by have := hi.m1; have := hi.m0; omega
  have qd := h.reg hd1
  have qn := h.reg hn1
  have qm := h.reg hm1
  have HRD : Hid (U s.rd) := h.2.reg hd1
  have HRN : Hid (U s.rn) := h.2.reg hn1
  have HRM : Hid (U s.rm) := h.2.reg hm1
  have H := Lib.hid h
  have HS := Lib.hid (fun (wq : World) (g : SpW wq p s) => shifted_c wq p s g 15 s.rd (s.rm % 256) s.i.d.toNat hop (by unfold isSh; decide) hdd.symm hd1 HRD.out (by omega) (by omega))
  have HX := Lib.hid (and255_32 HRM.out)
  clear hop
  rw [← hdd] at r2
  rw [← hnn] at r3
  rw [← hmm] at r4
  change w.cell? _ = some (.int .u32 s.rd) at qd
  change w.cell? _ = some (.int .u32 s.rn) at qn
  change w.cell? _ = some (.int .u32 s.rm) at qm
  obtain ⟨rd1, rd2⟩ := HRD.out
  obtain ⟨rn1, rn2⟩ := HRN.out
  obtain ⟨rm1, rm2⟩ := HRM.out
  generalize s.rd = rd at *
  generalize s.rn = rn at *
  generalize s.rm = rm at *
  generalize s.i.imm = imm at *
  generalize s.i.d.toNat = d at *
  generalize s.i.n.toNat = n at *
  generalize s.i.m.toNat = m at *
  generalize s.i.cond = cond at *
  clear hdd hnn hmm hi h
  have hdi : (d : Int) < 16 := by omega
  have hni : (n : Int) < 16 := by omega
  have hmi : (m : Int) < 16 := by omega
  have hlt := H.out.lt
  obtain ⟨wn, hwn⟩ : ∃ wn, wn = w.alloc (.cells #[.int .i64 15, .int .i64 d, .int .i64 n, .int .i64 m, .int .i64 imm, .int .i64 cond] 36) := ⟨_, rfl⟩
  obtain ⟨X, hX⟩ : ∃ X, X = w.heap.size := ⟨_, rfl⟩
  have kb : Blk wn X 36 #[.int .i64 15, .int .i64 d, .int .i64 n, .int .i64 m, .int .i64 imm, .int .i64 cond] := by rw [hwn, hX]; exact Blk.new _ _ _
  have HON : Hid (Only (fun k => k = p) w wn) := by rw [hwn]; exact (Only.refl _ _).alloc _
  have HSN : Hid (SpW wn p s) := H.out.only (S := fun _ => False) (by rw [hwn]; exact (Only.refl _ _).alloc _) id
  have tr : ∀ (k : Nat) (v : Value), w.cell? ⟨p, k, none⟩ = some v → wn.cell? ⟨p, k, none⟩ = some v := fun k v e => by
    rw [((by rw [hwn]; exact (Only.refl _ _).alloc _ : Only (fun _ => False) w wn)).cell (p := ⟨p, k, none⟩) hlt id]; exact e
  have pd := tr _ _ qd; have pn := tr _ _ qn; have pm := tr _ _ qm
  have b0 := kb.cell 0
  have b1 := kb.cell 1
  have b2 := kb.cell 2
  have b3 := kb.cell 3
  have b4 := kb.cell 4
  simp at b0 b1 b2 b3 b4
  go_enter Try.func37, Try.ntmps37
  go_wp2_with fail
  rw [← hwn, ← hX]
  clear hwn hX qd qn qm f2 r1 r2 r3 r4 r5 r6 tr hlt kb
  go_quiet (fail)
  obtain ⟨wq, hwq⟩ : ∃ wq, wq = wn.drewN nq := ⟨_, rfl⟩
  have HQ : Hid (SpW wq p s) := by rw [hwq]; exact HSN.out.only (S := fun _ => False) ((Only.refl _ _).drewN _) id
  have HOQ : Hid (Only (fun k => k = p) w wq) := by rw [hwq]; exact HON.out.drewN _
  have c0 : wq.cell? ⟨X, 0, none⟩ = some (.int .i64 15) := by rw [hwq]; exact b0
  have c4 : wq.cell? ⟨X, 4, none⟩ = some (.int .i64 imm) := by rw [hwq]; exact b4
  rw [← hwq]
  clear hwq b0 b1 b2 b3 b4 pd pn pm
  have hx := HX.out
  go_wp2_with fail
  refine (HS.out _ HQ.out).mono ?_
  rintro e w1 ⟨rfl, h1, o1⟩
  have H1 := Lib.hid h1
  have O1 := Lib.hid (HOQ.out.trans o1 (fun _ _ h => h))
  clear h1 o1 c0 c4
  go_wp2_with fail
  go_ret
  exact ⟨rfl, H1.out, O1.out⟩
set_option maxHeartbeats 4000000 in
set_option maxRecDepth 100000 in
theorem bit_16 (w : World) (p : Nat) (s : Sp) (h : SpW w p s) (hi : InsOk s.i) (hop : s.i.op = 16) :
    Calls Try.prog 37 #[.pointer (some ⟨p, 0, none⟩)] w fun e w' => e = .returned (.bool true) ∧ SpW w' p (s.shifted 16 s.rd (s.rm % 256) s.i.d.toNat) ∧ Only (fun k => k = p) w w' := by
  obtain ⟨_, r1, r2, r3, r4, r5, r6, _⟩ := h.rest
  obtain ⟨_, _, f2, _⟩ := h.flags
  rw [hop] at r1
  have hdd : (s.i.d.toNat : Int) = s.i.d := by have := hi.d0; omega
  have hnn : (s.i.n.toNat : Int) = s.i.n := by have := hi.n0; omega
  have hmm : (s.i.m.toNat : Int) = s.i.m := by have := hi.m0; omega
  have hd1 : s.i.d.toNat < 16 := by have := hi.d1; have := hi.d0; omega
  have hn1 : s.i.n.toNat < 16 := by have := hi.n1; have := hi.n0; omega
  have hm1 : s.i.m.toNat < 16 := by have := hi.m1; have := hi.m0; omega
  have qd := h.reg hd1
  have qn := h.reg hn1
  have qm := h.reg hm1
  have HRD : Hid (U s.rd) := h.2.reg hd1
  have HRN : Hid (U s.rn) := h.2.reg hn1
  have HRM : Hid (U s.rm) := h.2.reg hm1
  have H := Lib.hid h
  have HS := Lib.hid (fun (wq : World) (g : SpW wq p s) => shifted_c wq p s g 16 s.rd (s.rm % 256) s.i.d.toNat hop (by unfold isSh; decide) hdd.symm hd1 HRD.out (by omega) (by omega))
  have HX := Lib.hid (and255_32 HRM.out)
  clear hop
  rw [← hdd] at r2
  rw [← hnn] at r3
  rw [← hmm] at r4
  change w.cell? _ = some (.int .u32 s.rd) at qd
  change w.cell? _ = some (.int .u32 s.rn) at qn
  change w.cell? _ = some (.int .u32 s.rm) at qm
  obtain ⟨rd1, rd2⟩ := HRD.out
  obtain ⟨rn1, rn2⟩ := HRN.out
  obtain ⟨rm1, rm2⟩ := HRM.out
  generalize s.rd = rd at *
  generalize s.rn = rn at *
  generalize s.rm = rm at *
  generalize s.i.imm = imm at *
  generalize s.i.d.toNat = d at *
  generalize s.i.n.toNat = n at *
  generalize s.i.m.toNat = m at *
  generalize s.i.cond = cond at *
  clear hdd hnn hmm hi h
  have hdi : (d : Int) < 16 := by omega
  have hni : (n : Int) < 16 := by omega
  have hmi : (m : Int) < 16 := by omega
  have hlt := H.out.lt
  obtain ⟨wn, hwn⟩ : ∃ wn, wn = w.alloc (.cells #[.int .i64 16, .int .i64 d, .int .i64 n, .int .i64 m, .int .i64 imm, .int .i64 cond] 36) := ⟨_, rfl⟩
  obtain ⟨X, hX⟩ : ∃ X, X = w.heap.size := ⟨_, rfl⟩
  have kb : Blk wn X 36 #[.int .i64 16, .int .i64 d, .int .i64 n, .int .i64 m, .int .i64 imm, .int .i64 cond] := by rw [hwn, hX]; exact Blk.new _ _ _
  have HON : Hid (Only (fun k => k = p) w wn) := by rw [hwn]; exact (Only.refl _ _).alloc _
  have HSN : Hid (SpW wn p s) := H.out.only (S := fun _ => False) (by rw [hwn]; exact (Only.refl _ _).alloc _) id
  have tr : ∀ (k : Nat) (v : Value), w.cell? ⟨p, k, none⟩ = some v → wn.cell? ⟨p, k, none⟩ = some v := fun k v e => by
    rw [((by rw [hwn]; exact (Only.refl _ _).alloc _ : Only (fun _ => False) w wn)).cell (p := ⟨p, k, none⟩) hlt id]; exact e
  have pd := tr _ _ qd; have pn := tr _ _ qn; have pm := tr _ _ qm
  have b0 := kb.cell 0
  have b1 := kb.cell 1
  have b2 := kb.cell 2
  have b3 := kb.cell 3
  have b4 := kb.cell 4
  simp at b0 b1 b2 b3 b4
  go_enter Try.func37, Try.ntmps37
  go_wp2_with fail
  rw [← hwn, ← hX]
  clear hwn hX qd qn qm f2 r1 r2 r3 r4 r5 r6 tr hlt kb
  go_quiet (fail)
  obtain ⟨wq, hwq⟩ : ∃ wq, wq = wn.drewN nq := ⟨_, rfl⟩
  have HQ : Hid (SpW wq p s) := by rw [hwq]; exact HSN.out.only (S := fun _ => False) ((Only.refl _ _).drewN _) id
  have HOQ : Hid (Only (fun k => k = p) w wq) := by rw [hwq]; exact HON.out.drewN _
  have c0 : wq.cell? ⟨X, 0, none⟩ = some (.int .i64 16) := by rw [hwq]; exact b0
  have c4 : wq.cell? ⟨X, 4, none⟩ = some (.int .i64 imm) := by rw [hwq]; exact b4
  rw [← hwq]
  clear hwq b0 b1 b2 b3 b4 pd pn pm
  have hx := HX.out
  go_wp2_with fail
  refine (HS.out _ HQ.out).mono ?_
  rintro e w1 ⟨rfl, h1, o1⟩
  have H1 := Lib.hid h1
  have O1 := Lib.hid (HOQ.out.trans o1 (fun _ _ h => h))
  clear h1 o1 c0 c4
  go_wp2_with fail
  go_ret
  exact ⟨rfl, H1.out, O1.out⟩
set_option maxHeartbeats 4000000 in
set_option maxRecDepth 100000 in
theorem bit_19 (w : World) (p : Nat) (s : Sp) (h : SpW w p s) (hi : InsOk s.i) (hop : s.i.op = 19) :
    Calls Try.prog 37 #[.pointer (some ⟨p, 0, none⟩)] w fun e w' => e = .returned (.bool true) ∧ SpW w' p (s.shifted 19 s.rd (s.rm % 256) s.i.d.toNat) ∧ Only (fun k => k = p) w w' := by
  obtain ⟨_, r1, r2, r3, r4, r5, r6, _⟩ := h.rest
  obtain ⟨_, _, f2, _⟩ := h.flags
  rw [hop] at r1
  have hdd : (s.i.d.toNat : Int) = s.i.d := by have := hi.d0; omega
  have hnn : (s.i.n.toNat : Int) = s.i.n := by have := hi.n0; omega
  have hmm : (s.i.m.toNat : Int) = s.i.m := by have := hi.m0; omega
  have hd1 : s.i.d.toNat < 16 := by have := hi.d1; have := hi.d0; omega
  have hn1 : s.i.n.toNat < 16 := by have := hi.n1; have := hi.n0; omega
  have hm1 : s.i.m.toNat < 16 := by have := hi.m1; have := hi.m0; omega
  have qd := h.reg hd1
  have qn := h.reg hn1
  have qm := h.reg hm1
  have HRD : Hid (U s.rd) := h.2.reg hd1
  have HRN : Hid (U s.rn) := h.2.reg hn1
  have HRM : Hid (U s.rm) := h.2.reg hm1
  have H := Lib.hid h
  have HS := Lib.hid (fun (wq : World) (g : SpW wq p s) => shifted_c wq p s g 19 s.rd (s.rm % 256) s.i.d.toNat hop (by unfold isSh; decide) hdd.symm hd1 HRD.out (by omega) (by omega))
  have HX := Lib.hid (and255_32 HRM.out)
  clear hop
  rw [← hdd] at r2
  rw [← hnn] at r3
  rw [← hmm] at r4
  change w.cell? _ = some (.int .u32 s.rd) at qd
  change w.cell? _ = some (.int .u32 s.rn) at qn
  change w.cell? _ = some (.int .u32 s.rm) at qm
  obtain ⟨rd1, rd2⟩ := HRD.out
  obtain ⟨rn1, rn2⟩ := HRN.out
  obtain ⟨rm1, rm2⟩ := HRM.out
  generalize s.rd = rd at *
  generalize s.rn = rn at *
  generalize s.rm = rm at *
  generalize s.i.imm = imm at *
  generalize s.i.d.toNat = d at *
  generalize s.i.n.toNat = n at *
  generalize s.i.m.toNat = m at *
  generalize s.i.cond = cond at *
  clear hdd hnn hmm hi h
  have hdi : (d : Int) < 16 := by omega
  have hni : (n : Int) < 16 := by omega
  have hmi : (m : Int) < 16 := by omega
  have hlt := H.out.lt
  obtain ⟨wn, hwn⟩ : ∃ wn, wn = w.alloc (.cells #[.int .i64 19, .int .i64 d, .int .i64 n, .int .i64 m, .int .i64 imm, .int .i64 cond] 36) := ⟨_, rfl⟩
  obtain ⟨X, hX⟩ : ∃ X, X = w.heap.size := ⟨_, rfl⟩
  have kb : Blk wn X 36 #[.int .i64 19, .int .i64 d, .int .i64 n, .int .i64 m, .int .i64 imm, .int .i64 cond] := by rw [hwn, hX]; exact Blk.new _ _ _
  have HON : Hid (Only (fun k => k = p) w wn) := by rw [hwn]; exact (Only.refl _ _).alloc _
  have HSN : Hid (SpW wn p s) := H.out.only (S := fun _ => False) (by rw [hwn]; exact (Only.refl _ _).alloc _) id
  have tr : ∀ (k : Nat) (v : Value), w.cell? ⟨p, k, none⟩ = some v → wn.cell? ⟨p, k, none⟩ = some v := fun k v e => by
    rw [((by rw [hwn]; exact (Only.refl _ _).alloc _ : Only (fun _ => False) w wn)).cell (p := ⟨p, k, none⟩) hlt id]; exact e
  have pd := tr _ _ qd; have pn := tr _ _ qn; have pm := tr _ _ qm
  have b0 := kb.cell 0
  have b1 := kb.cell 1
  have b2 := kb.cell 2
  have b3 := kb.cell 3
  have b4 := kb.cell 4
  simp at b0 b1 b2 b3 b4
  go_enter Try.func37, Try.ntmps37
  go_wp2_with fail
  rw [← hwn, ← hX]
  clear hwn hX qd qn qm f2 r1 r2 r3 r4 r5 r6 tr hlt kb
  go_quiet (fail)
  obtain ⟨wq, hwq⟩ : ∃ wq, wq = wn.drewN nq := ⟨_, rfl⟩
  have HQ : Hid (SpW wq p s) := by rw [hwq]; exact HSN.out.only (S := fun _ => False) ((Only.refl _ _).drewN _) id
  have HOQ : Hid (Only (fun k => k = p) w wq) := by rw [hwq]; exact HON.out.drewN _
  have c0 : wq.cell? ⟨X, 0, none⟩ = some (.int .i64 19) := by rw [hwq]; exact b0
  have c4 : wq.cell? ⟨X, 4, none⟩ = some (.int .i64 imm) := by rw [hwq]; exact b4
  rw [← hwq]
  clear hwq b0 b1 b2 b3 b4 pd pn pm
  have hx := HX.out
  go_wp2_with fail
  refine (HS.out _ HQ.out).mono ?_
  rintro e w1 ⟨rfl, h1, o1⟩
  have H1 := Lib.hid h1
  have O1 := Lib.hid (HOQ.out.trans o1 (fun _ _ h => h))
  clear h1 o1 c0 c4
  go_wp2_with fail
  go_ret
  exact ⟨rfl, H1.out, O1.out⟩
set_option maxHeartbeats 4000000 in
set_option maxRecDepth 100000 in
theorem sums_no (w : World) (p : Nat) (s : Sp) (h : SpW w p s) (hi : InsOk s.i) (e4 : s.i.op ≠ 4) (e5 : s.i.op ≠ 5) (e6 : s.i.op ≠ 6) (e7 : s.i.op ≠ 7) (e9 : s.i.op ≠ 9) (e10 : s.i.op ≠ 10) (e11 : s.i.op ≠ 11) (e17 : s.i.op ≠ 17) (e18 : s.i.op ≠ 18) (e21 : s.i.op ≠ 21) (e22 : s.i.op ≠ 22) (e23 : s.i.op ≠ 23) :
    Calls Try.prog 36 #[.pointer (some ⟨p, 0, none⟩)] w fun e w' => e = .returned (.bool false) ∧ SpW w' p s ∧ Only (fun k => k = p) w w' := by
  obtain ⟨_, r1, r2, r3, r4, r5, r6, _⟩ := h.rest
  obtain ⟨_, _, f2, _⟩ := h.flags
  have hdd : (s.i.d.toNat : Int) = s.i.d := by have := hi.d0; omega
  have hnn : (s.i.n.toNat : Int) = s.i.n := by have := hi.n0; omega
  have hmm : (s.i.m.toNat : Int) = s.i.m := by have := hi.m0; omega
  have hd1 : s.i.d.toNat < 16 := by have := hi.d1; have := hi.d0; omega
  have hn1 : s.i.n.toNat < 16 := by have := hi.n1; have := hi.n0; omega
  have hm1 : s.i.m.toNat < 16 := by have := hi.m1; have := hi.m0; omega
  have qd := h.reg hd1
  have qn := h.reg hn1
  have qm := h.reg hm1
  have HRD : Hid (U s.rd) := h.2.reg hd1
  have HRN : Hid (U s.rn) := h.2.reg hn1
  have HRM : Hid (U s.rm) := h.2.reg hm1
  have H := Lib.hid h
  have t4 : (s.i.op == 4) = false := by simp [e4]
  have t5 : (s.i.op == 5) = false := by simp [e5]
  have t6 : (s.i.op == 6) = false := by simp [e6]
  have t7 : (s.i.op == 7) = false := by simp [e7]
  have t9 : (s.i.op == 9) = false := by simp [e9]
  have t10 : (s.i.op == 10) = false := by simp [e10]
  have t11 : (s.i.op == 11) = false := by simp [e11]
  have t17 : (s.i.op == 17) = false := by simp [e17]
  have t18 : (s.i.op == 18) = false := by simp [e18]
  have t21 : (s.i.op == 21) = false := by simp [e21]
  have t22 : (s.i.op == 22) = false := by simp [e22]
  have t23 : (s.i.op == 23) = false := by simp [e23]
  generalize s.i.op = op at *
  clear e4 e5 e6 e7 e9 e10 e11 e17 e18 e21 e22 e23
  rw [← hdd] at r2
  rw [← hnn] at r3
  rw [← hmm] at r4
  change w.cell? _ = some (.int .u32 s.rd) at qd
  change w.cell? _ = some (.int .u32 s.rn) at qn
  change w.cell? _ = some (.int .u32 s.rm) at qm
  obtain ⟨rd1, rd2⟩ := HRD.out
  obtain ⟨rn1, rn2⟩ := HRN.out
  obtain ⟨rm1, rm2⟩ := HRM.out
  generalize s.rd = rd at *
  generalize s.rn = rn at *
  generalize s.rm = rm at *
  generalize s.i.imm = imm at *
  generalize s.i.d.toNat = d at *
  generalize s.i.n.toNat = n at *
  generalize s.i.m.toNat = m at *
  generalize s.i.cond = cond at *
  clear hdd hnn hmm hi h
  have hdi : (d : Int) < 16 := by omega
  have hni : (n : Int) < 16 := by omega
  have hmi : (m : Int) < 16 := by omega
  have hlt := H.out.lt
  obtain ⟨wn, hwn⟩ : ∃ wn, wn = w.alloc (.cells #[.int .i64 op, .int .i64 d, .int .i64 n, .int .i64 m, .int .i64 imm, .int .i64 cond] 36) := ⟨_, rfl⟩
  obtain ⟨X, hX⟩ : ∃ X, X = w.heap.size := ⟨_, rfl⟩
  have kb : Blk wn X 36 #[.int .i64 op, .int .i64 d, .int .i64 n, .int .i64 m, .int .i64 imm, .int .i64 cond] := by rw [hwn, hX]; exact Blk.new _ _ _
  have HON : Hid (Only (fun k => k = p) w wn) := by rw [hwn]; exact (Only.refl _ _).alloc _
  have HSN : Hid (SpW wn p s) := H.out.only (S := fun _ => False) (by rw [hwn]; exact (Only.refl _ _).alloc _) id
  have tr : ∀ (k : Nat) (v : Value), w.cell? ⟨p, k, none⟩ = some v → wn.cell? ⟨p, k, none⟩ = some v := fun k v e => by
    rw [((by rw [hwn]; exact (Only.refl _ _).alloc _ : Only (fun _ => False) w wn)).cell (p := ⟨p, k, none⟩) hlt id]; exact e
  have pd := tr _ _ qd; have pn := tr _ _ qn; have pm := tr _ _ qm
  have b0 := kb.cell 0
  have b1 := kb.cell 1
  have b2 := kb.cell 2
  have b3 := kb.cell 3
  have b4 := kb.cell 4
  simp at b0 b1 b2 b3 b4
  go_enter Try.func36, Try.ntmps36
  go_wp2_with fail
  rw [← hwn, ← hX]
  clear hwn hX qd qn qm f2 r1 r2 r3 r4 r5 r6 tr hlt kb
  go_quiet (fail)
  obtain ⟨wq, hwq⟩ : ∃ wq, wq = wn.drewN nq := ⟨_, rfl⟩
  have HQ : Hid (SpW wq p s) := by rw [hwq]; exact HSN.out.only (S := fun _ => False) ((Only.refl _ _).drewN _) id
  have HOQ : Hid (Only (fun k => k = p) w wq) := by rw [hwq]; exact HON.out.drewN _
  have c0 : wq.cell? ⟨X, 0, none⟩ = some (.int .i64 op) := by rw [hwq]; exact b0
  have c4 : wq.cell? ⟨X, 4, none⟩ = some (.int .i64 imm) := by rw [hwq]; exact b4
  rw [← hwq]
  clear hwq b0 b1 b2 b3 b4 pd pn pm
  go_wp2_with fail
  go_ret
  exact ⟨rfl, HQ.out, HOQ.out⟩
set_option maxHeartbeats 4000000 in
set_option maxRecDepth 100000 in
theorem bitwise_no (w : World) (p : Nat) (s : Sp) (h : SpW w p s) (hi : InsOk s.i) (e8 : s.i.op ≠ 8) (e1 : s.i.op ≠ 1) (e2 : s.i.op ≠ 2) (e3 : s.i.op ≠ 3) (e14 : s.i.op ≠ 14) (e15 : s.i.op ≠ 15) (e16 : s.i.op ≠ 16) (e19 : s.i.op ≠ 19) (e12 : s.i.op ≠ 12) (e13 : s.i.op ≠ 13) (e20 : s.i.op ≠ 20) (e24 : s.i.op ≠ 24) (e25 : s.i.op ≠ 25) (e26 : s.i.op ≠ 26) (e27 : s.i.op ≠ 27) (e28 : s.i.op ≠ 28) :
    Calls Try.prog 37 #[.pointer (some ⟨p, 0, none⟩)] w fun e w' => e = .returned (.bool false) ∧ SpW w' p s ∧ Only (fun k => k = p) w w' := by
  obtain ⟨_, r1, r2, r3, r4, r5, r6, _⟩ := h.rest
  obtain ⟨_, _, f2, _⟩ := h.flags
  have hdd : (s.i.d.toNat : Int) = s.i.d := by have := hi.d0; omega
  have hnn : (s.i.n.toNat : Int) = s.i.n := by have := hi.n0; omega
  have hmm : (s.i.m.toNat : Int) = s.i.m := by have := hi.m0; omega
  have hd1 : s.i.d.toNat < 16 := by have := hi.d1; have := hi.d0; omega
  have hn1 : s.i.n.toNat < 16 := by have := hi.n1; have := hi.n0; omega
  have hm1 : s.i.m.toNat < 16 := by have := hi.m1; have := hi.m0; omega
  have qd := h.reg hd1
  have qn := h.reg hn1
  have qm := h.reg hm1
  have HRD : Hid (U s.rd) := h.2.reg hd1
  have HRN : Hid (U s.rn) := h.2.reg hn1
  have HRM : Hid (U s.rm) := h.2.reg hm1
  have H := Lib.hid h
  have t8 : (s.i.op == 8) = false := by simp [e8]
  have t1 : (s.i.op == 1) = false := by simp [e1]
  have t2 : (s.i.op == 2) = false := by simp [e2]
  have t3 : (s.i.op == 3) = false := by simp [e3]
  have t14 : (s.i.op == 14) = false := by simp [e14]
  have t15 : (s.i.op == 15) = false := by simp [e15]
  have t16 : (s.i.op == 16) = false := by simp [e16]
  have t19 : (s.i.op == 19) = false := by simp [e19]
  have t12 : (s.i.op == 12) = false := by simp [e12]
  have t13 : (s.i.op == 13) = false := by simp [e13]
  have t20 : (s.i.op == 20) = false := by simp [e20]
  have t24 : (s.i.op == 24) = false := by simp [e24]
  have t25 : (s.i.op == 25) = false := by simp [e25]
  have t26 : (s.i.op == 26) = false := by simp [e26]
  have t27 : (s.i.op == 27) = false := by simp [e27]
  have t28 : (s.i.op == 28) = false := by simp [e28]
  generalize s.i.op = op at *
  clear e8 e1 e2 e3 e14 e15 e16 e19 e12 e13 e20 e24 e25 e26 e27 e28
  rw [← hdd] at r2
  rw [← hnn] at r3
  rw [← hmm] at r4
  change w.cell? _ = some (.int .u32 s.rd) at qd
  change w.cell? _ = some (.int .u32 s.rn) at qn
  change w.cell? _ = some (.int .u32 s.rm) at qm
  obtain ⟨rd1, rd2⟩ := HRD.out
  obtain ⟨rn1, rn2⟩ := HRN.out
  obtain ⟨rm1, rm2⟩ := HRM.out
  generalize s.rd = rd at *
  generalize s.rn = rn at *
  generalize s.rm = rm at *
  generalize s.i.imm = imm at *
  generalize s.i.d.toNat = d at *
  generalize s.i.n.toNat = n at *
  generalize s.i.m.toNat = m at *
  generalize s.i.cond = cond at *
  clear hdd hnn hmm hi h
  have hdi : (d : Int) < 16 := by omega
  have hni : (n : Int) < 16 := by omega
  have hmi : (m : Int) < 16 := by omega
  have hlt := H.out.lt
  obtain ⟨wn, hwn⟩ : ∃ wn, wn = w.alloc (.cells #[.int .i64 op, .int .i64 d, .int .i64 n, .int .i64 m, .int .i64 imm, .int .i64 cond] 36) := ⟨_, rfl⟩
  obtain ⟨X, hX⟩ : ∃ X, X = w.heap.size := ⟨_, rfl⟩
  have kb : Blk wn X 36 #[.int .i64 op, .int .i64 d, .int .i64 n, .int .i64 m, .int .i64 imm, .int .i64 cond] := by rw [hwn, hX]; exact Blk.new _ _ _
  have HON : Hid (Only (fun k => k = p) w wn) := by rw [hwn]; exact (Only.refl _ _).alloc _
  have HSN : Hid (SpW wn p s) := H.out.only (S := fun _ => False) (by rw [hwn]; exact (Only.refl _ _).alloc _) id
  have tr : ∀ (k : Nat) (v : Value), w.cell? ⟨p, k, none⟩ = some v → wn.cell? ⟨p, k, none⟩ = some v := fun k v e => by
    rw [((by rw [hwn]; exact (Only.refl _ _).alloc _ : Only (fun _ => False) w wn)).cell (p := ⟨p, k, none⟩) hlt id]; exact e
  have pd := tr _ _ qd; have pn := tr _ _ qn; have pm := tr _ _ qm
  have b0 := kb.cell 0
  have b1 := kb.cell 1
  have b2 := kb.cell 2
  have b3 := kb.cell 3
  have b4 := kb.cell 4
  simp at b0 b1 b2 b3 b4
  go_enter Try.func37, Try.ntmps37
  go_wp2_with fail
  rw [← hwn, ← hX]
  clear hwn hX qd qn qm f2 r1 r2 r3 r4 r5 r6 tr hlt kb
  go_quiet (fail)
  obtain ⟨wq, hwq⟩ : ∃ wq, wq = wn.drewN nq := ⟨_, rfl⟩
  have HQ : Hid (SpW wq p s) := by rw [hwq]; exact HSN.out.only (S := fun _ => False) ((Only.refl _ _).drewN _) id
  have HOQ : Hid (Only (fun k => k = p) w wq) := by rw [hwq]; exact HON.out.drewN _
  have c0 : wq.cell? ⟨X, 0, none⟩ = some (.int .i64 op) := by rw [hwq]; exact b0
  have c4 : wq.cell? ⟨X, 4, none⟩ = some (.int .i64 imm) := by rw [hwq]; exact b4
  rw [← hwq]
  clear hwq b0 b1 b2 b3 b4 pd pn pm
  go_wp2_with fail
  go_ret
  exact ⟨rfl, HQ.out, HOQ.out⟩
end Go.Proofs.Ytpihjhfaeloapaa
