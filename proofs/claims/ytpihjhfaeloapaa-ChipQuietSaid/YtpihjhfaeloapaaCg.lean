/- MERGED by mergech.py: XCx XCg. -/
import Derived.Test.YtpihjhfaeloapaaCo
import Derived.Test.YtpihjhfaeloapaaCf
namespace Go.Proofs.Ytpihjhfaeloapaa
open Go.RowKit On Th
def Sp.branch (s : Sp) (cost : Int) : Sp := { s.setR 15 ((s.at_ + 4 + s.i.imm) % 4294967296) with cost := cost }
def OtherPost (p m g : Nat) (s : Sp) (f : Nat → Int) (w : World) (e : Ending) (w' : World) : Prop := e = .returned (.tuple #[]) ∧ SpW w' p s ∧ MW w' m g f ∧ Only (fun k => k = p ∨ k = g) w w'
theorem OtherPost.of {p m g : Nat} {s : Sp} {f : Nat → Int} {w w' : World} (hap : p ≠ m ∧ p ≠ g) (hm : MW w m g f) (h : SpW w' p s) (hO : Only (fun k => k = p) w w') : OtherPost p m g s f w (.returned (.tuple #[])) w' :=
  ⟨rfl, h, hm.only hO (fun e => hap.1 e.symm) (fun e => hap.2 e.symm), hO.mono (fun _ _ e => .inl e)⟩
set_option maxHeartbeats 4000000 in
set_option maxRecDepth 100000 in
theorem other_37 (w : World) (p m g : Nat) (s : Sp) (f : Nat → Int) (h : SpW w p s) (hm : MW w m g f) (hop : s.i.op = 37) (hk0 : 0 ≤ s.i.imm) (hk1 : s.i.imm ≤ 508) :
    Calls Try.prog 39 #[.pointer (some ⟨p, 0, none⟩)] w (OtherPost p m g (s.setR 13 ((s.c.R.getD 13 0 + s.i.imm) % 4294967296)) f w) := by
  have hap := h.apart hm
  obtain ⟨r23, r1, r2, r3, r4, r5, r6, r7, _⟩ := h.rest
  rw [hop] at r1
  have H := Lib.hid h; have HM := Lib.hid hm
  have q13 := h.reg (k := 13) (by omega)
  have z13 := h.frozen 13
  have HU := Lib.hid (h.2.reg (k := 13) (by omega))
  generalize s.c.R.getD 13 0 = r13 at *
  generalize s.i.imm = imm at *
  obtain ⟨u1, u2⟩ := HU.out
  clear h hm
  go_enter Try.func39, Try.ntmps39
  go_wp2_with fail
  go_region
  go_wp2_with fail
  go_end0
  exact OtherPost.of hap HM.out ((H.out.setReg (k := 13) (by omega) (by unfold U; omega)).only (S := fun _ => False) ((Only.refl _ _).drew) id) ((Only.refl (fun j => j = p) w).setCell (p := ⟨p, 13, none⟩) (.inl rfl) _).drew
set_option maxHeartbeats 4000000 in
set_option maxRecDepth 100000 in
theorem other_38 (w : World) (p m g : Nat) (s : Sp) (f : Nat → Int) (h : SpW w p s) (hm : MW w m g f) (hop : s.i.op = 38) (hk0 : 0 ≤ s.i.imm) (hk1 : s.i.imm ≤ 508) :
    Calls Try.prog 39 #[.pointer (some ⟨p, 0, none⟩)] w (OtherPost p m g (s.setR 13 ((s.c.R.getD 13 0 - s.i.imm) % 4294967296)) f w) := by
  have hap := h.apart hm
  obtain ⟨r23, r1, r2, r3, r4, r5, r6, r7, _⟩ := h.rest
  rw [hop] at r1
  have H := Lib.hid h; have HM := Lib.hid hm
  have q13 := h.reg (k := 13) (by omega)
  have z13 := h.frozen 13
  have HU := Lib.hid (h.2.reg (k := 13) (by omega))
  generalize s.c.R.getD 13 0 = r13 at *
  generalize s.i.imm = imm at *
  obtain ⟨u1, u2⟩ := HU.out
  clear h hm
  go_enter Try.func39, Try.ntmps39
  go_wp2_with fail
  go_region
  go_wp2_with fail
  go_end0
  exact OtherPost.of hap HM.out ((H.out.setReg (k := 13) (by omega) (by unfold U; omega)).only (S := fun _ => False) ((Only.refl _ _).drew) id) ((Only.refl (fun j => j = p) w).setCell (p := ⟨p, 13, none⟩) (.inl rfl) _).drew
set_option maxHeartbeats 4000000 in
set_option maxRecDepth 100000 in
theorem other_39 (w : World) (p m g : Nat) (s : Sp) (f : Nat → Int) (h : SpW w p s) (hm : MW w m g f) (hop : s.i.op = 39) (hsm : s.m = .pointer (some ⟨m, 0, none⟩)) (hk0 : 0 ≤ s.i.imm) (hk1 : s.i.imm ≤ 511) (hft : s.fault = false) :
    Calls Try.prog 39 #[.pointer (some ⟨p, 0, none⟩)] w (OtherPost p m g s.push (pushF s f) w) := by
  have hap := h.apart hm
  obtain ⟨r23, r1, r2, r3, r4, r5, r6, r7, _⟩ := h.rest
  rw [hop] at r1
  have H := Lib.hid h; have HM := Lib.hid hm
  have HC := Lib.hid (push_c w p m g s f h hm hsm hk0 hk1 hft)
  clear h hm
  go_enter Try.func39, Try.ntmps39
  go_wp2_with fail
  refine (HC.out).mono ?_
  rintro e w1 ⟨rfl, h1, h2, h3⟩
  have H1 := Lib.hid h1; have H2 := Lib.hid h2; have H3 := Lib.hid h3
  clear h1 h2 h3
  go_wp2_with fail
  go_end0
  exact ⟨rfl, H1.out, H2.out, H3.out⟩
set_option maxHeartbeats 4000000 in
set_option maxRecDepth 100000 in
theorem other_40 (w : World) (p m g : Nat) (s : Sp) (f : Nat → Int) (h : SpW w p s) (hm : MW w m g f) (hop : s.i.op = 40) (hsm : s.m = .pointer (some ⟨m, 0, none⟩)) (hk0 : 0 ≤ s.i.imm) (hk1 : s.i.imm ≤ 511) :
    Calls Try.prog 39 #[.pointer (some ⟨p, 0, none⟩)] w (OtherPost p m g (s.pop f) f w) := by
  have hap := h.apart hm
  obtain ⟨r23, r1, r2, r3, r4, r5, r6, r7, _⟩ := h.rest
  rw [hop] at r1
  have H := Lib.hid h; have HM := Lib.hid hm
  have HC := Lib.hid (pop_c w p m g s f h hm hsm hk0 hk1)
  clear h hm
  go_enter Try.func39, Try.ntmps39
  go_wp2_with fail
  refine (HC.out).mono ?_
  rintro e w1 ⟨rfl, h1, h2, h3⟩
  have H1 := Lib.hid h1; have H2 := Lib.hid h2; have H3 := Lib.hid h3
  clear h1 h2 h3
  go_wp2_with fail
  go_end0
  exact ⟨rfl, H1.out, H2.out, H3.out⟩
set_option maxHeartbeats 4000000 in
set_option maxRecDepth 100000 in
theorem other_41n (w : World) (p m g : Nat) (s : Sp) (f : Nat → Int) (h : SpW w p s) (hm : MW w m g f) (hop : s.i.op = 41) (ha0 : 0 ≤ s.at_) (ha1 : s.at_ < 131072) (hc0 : 0 ≤ s.i.cond) (hc1 : s.i.cond ≤ 13) (hb : s.c.holds s.i.cond = false) :
    Calls Try.prog 39 #[.pointer (some ⟨p, 0, none⟩)] w (OtherPost p m g s f w) := by
  have hap := h.apart hm
  obtain ⟨r23, r1, r2, r3, r4, r5, r6, r7, _⟩ := h.rest
  rw [hop] at r1
  have H := Lib.hid h; have HM := Lib.hid hm
  have HC := Lib.hid (holds_c w p s h s.i.cond hc0 hc1)
  have HBR := Lib.hid (fun (wq : World) (g' : SpW wq p s) => branch_c wq p s g' 3 ha0 ha1)
  rw [hb] at HC
  clear hb
  generalize s.i.cond = cond at *
  clear h hm
  go_enter Try.func39, Try.ntmps39
  go_wp2_with fail
  refine (HC.out).mono ?_
  rintro e w1 ⟨rfl, q, rfl⟩
  have H1 : Hid (SpW (w.drewN q) p s) := H.out.only (S := fun _ => False) ((Only.refl _ _).drewN _) id
  have HO1 : Hid (Only (fun k => k = p) w (w.drewN q)) := (Only.refl _ _).drewN _
  go_wp2_with fail
  go_end0
  exact OtherPost.of hap HM.out H1.out HO1.out
set_option maxHeartbeats 4000000 in
set_option maxRecDepth 100000 in
theorem other_41y (w : World) (p m g : Nat) (s : Sp) (f : Nat → Int) (h : SpW w p s) (hm : MW w m g f) (hop : s.i.op = 41) (ha0 : 0 ≤ s.at_) (ha1 : s.at_ < 131072) (hc0 : 0 ≤ s.i.cond) (hc1 : s.i.cond ≤ 13) (hb : s.c.holds s.i.cond = true) :
    Calls Try.prog 39 #[.pointer (some ⟨p, 0, none⟩)] w (OtherPost p m g (s.branch 3) f w) := by
  have hap := h.apart hm
  obtain ⟨r23, r1, r2, r3, r4, r5, r6, r7, _⟩ := h.rest
  rw [hop] at r1
  have H := Lib.hid h; have HM := Lib.hid hm
  have HC := Lib.hid (holds_c w p s h s.i.cond hc0 hc1)
  have HBR := Lib.hid (fun (wq : World) (g' : SpW wq p s) => branch_c wq p s g' 3 ha0 ha1)
  rw [hb] at HC
  clear hb
  generalize s.i.cond = cond at *
  clear h hm
  go_enter Try.func39, Try.ntmps39
  go_wp2_with fail
  refine (HC.out).mono ?_
  rintro e w1 ⟨rfl, q, rfl⟩
  have H1 : Hid (SpW (w.drewN q) p s) := H.out.only (S := fun _ => False) ((Only.refl _ _).drewN _) id
  have HO1 : Hid (Only (fun k => k = p) w (w.drewN q)) := (Only.refl _ _).drewN _
  go_wp2_with fail
  refine (HBR.out _ H1.out).mono ?_
  rintro e w2 ⟨rfl, h2, o2⟩
  have H2 := Lib.hid h2; have O2 := Lib.hid (HO1.out.trans o2 (fun _ _ e => e))
  clear h2 o2
  go_wp2_with fail
  go_end0
  exact OtherPost.of hap HM.out H2.out O2.out
set_option maxHeartbeats 4000000 in
set_option maxRecDepth 100000 in
theorem other_42 (w : World) (p m g : Nat) (s : Sp) (f : Nat → Int) (h : SpW w p s) (hm : MW w m g f) (hop : s.i.op = 42) (ha0 : 0 ≤ s.at_) (ha1 : s.at_ < 131072) :
    Calls Try.prog 39 #[.pointer (some ⟨p, 0, none⟩)] w (OtherPost p m g (s.branch 3) f w) := by
  have hap := h.apart hm
  obtain ⟨r23, r1, r2, r3, r4, r5, r6, r7, _⟩ := h.rest
  rw [hop] at r1
  have H := Lib.hid h; have HM := Lib.hid hm
  have HBR := Lib.hid (fun (wq : World) (g' : SpW wq p s) => branch_c wq p s g' 3 ha0 ha1)
  clear h hm
  go_enter Try.func39, Try.ntmps39
  go_wp2_with fail
  refine (HBR.out _ H.out).mono ?_
  rintro e w2 ⟨rfl, h2, o2⟩
  have H2 := Lib.hid h2; have O2 := Lib.hid o2
  clear h2 o2
  go_wp2_with fail
  go_end0
  exact OtherPost.of hap HM.out H2.out O2.out
set_option maxHeartbeats 4000000 in
set_option maxRecDepth 100000 in
theorem other_43 (w : World) (p m g : Nat) (s : Sp) (f : Nat → Int) (h : SpW w p s) (hm : MW w m g f) (hop : s.i.op = 43) (ha0 : 0 ≤ s.at_) (ha1 : s.at_ < 131072) :
    Calls Try.prog 39 #[.pointer (some ⟨p, 0, none⟩)] w (OtherPost p m g ((s.setR 14 (bits .or .u32 (s.at_ + 4) 1)).branch 4) f w) := by
  have hap := h.apart hm
  obtain ⟨r23, r1, r2, r3, r4, r5, r6, r7, _⟩ := h.rest
  rw [hop] at r1
  have H := Lib.hid h; have HM := Lib.hid hm
  have HBR := Lib.hid (fun (wq : World) (g' : SpW wq p (s.setR 14 (bits .or .u32 (s.at_ + 4) 1))) => branch_c wq p _ g' 4 ha0 ha1)
  have HOU : Hid (U (bits .or .u32 (s.at_ + 4) 1)) := or_U (by unfold U; omega) (by unfold U; omega)
  have q14 := h.reg (k := 14) (by omega)
  have z14 := h.frozen 14
  generalize s.c.R.getD 14 0 = r14 at *
  have hat : s.at_ + 4 < 4294967296 := by omega
  clear h hm
  go_enter Try.func39, Try.ntmps39
  go_wp2_with fail
  go_region
  obtain ⟨wq, hwq⟩ : ∃ wq, wq = (w.setCell ⟨p, 14, none⟩ (.int .u32 (bits .or .u32 (s.at_ + 4) 1))).drew := ⟨_, rfl⟩
  have HQ : Hid (SpW wq p (s.setR 14 (bits .or .u32 (s.at_ + 4) 1))) := by rw [hwq]; exact (H.out.setReg (k := 14) (by omega) HOU.out).only (S := fun _ => False) ((Only.refl _ _).drew) id
  have HOQ : Hid (Only (fun k => k = p) w wq) := by rw [hwq]; exact ((Only.refl (fun k => k = p) w).setCell (p := ⟨p, 14, none⟩) (.inl rfl) _).drew
  try rw [← hwq]
  clear hwq
  go_wp2_with fail
  refine (HBR.out _ HQ.out).mono ?_
  rintro e w2 ⟨rfl, h2, o2⟩
  have H2 := Lib.hid h2; have O2 := Lib.hid (HOQ.out.trans o2 (fun _ _ e => e))
  clear h2 o2
  go_wp2_with fail
  go_end0
  exact OtherPost.of hap HM.out H2.out O2.out
set_option maxHeartbeats 4000000 in
set_option maxRecDepth 100000 in
theorem other_44 (w : World) (p m g : Nat) (s : Sp) (f : Nat → Int) (h : SpW w p s) (hm : MW w m g f) (hop : s.i.op = 44)  :
    Calls Try.prog 39 #[.pointer (some ⟨p, 0, none⟩)] w (OtherPost p m g { s with c := { s.c with st := 1, num := s.i.imm } } f w) := by
  have hap := h.apart hm
  obtain ⟨r23, r1, r2, r3, r4, r5, r6, r7, _⟩ := h.rest
  rw [hop] at r1
  have H := Lib.hid h; have HM := Lib.hid hm
  have z20 := h.frozen 20
  have z21 := h.frozen 21
  obtain ⟨_, _, _, _, q20, q21, _⟩ := h.flags
  clear h hm
  go_enter Try.func39, Try.ntmps39
  go_wp2_with fail
  go_end0
  exact OtherPost.of hap HM.out ((H.out.setSt 1).setNum s.i.imm) (((Only.refl (fun k => k = p) w).setCell (p := ⟨p, 20, none⟩) (.inl rfl) _).setCell (p := ⟨p, 21, none⟩) (.inl rfl) _)
set_option maxHeartbeats 4000000 in
set_option maxRecDepth 100000 in
theorem other_no (w : World) (p m g : Nat) (s : Sp) (f : Nat → Int) (h : SpW w p s) (hm : MW w m g f)  (e37 : s.i.op ≠ 37) (e38 : s.i.op ≠ 38) (e39 : s.i.op ≠ 39) (e40 : s.i.op ≠ 40) (e41 : s.i.op ≠ 41) (e42 : s.i.op ≠ 42) (e43 : s.i.op ≠ 43) (e44 : s.i.op ≠ 44) :
    Calls Try.prog 39 #[.pointer (some ⟨p, 0, none⟩)] w (OtherPost p m g s f w) := by
  have hap := h.apart hm
  obtain ⟨r23, r1, r2, r3, r4, r5, r6, r7, _⟩ := h.rest
  have H := Lib.hid h; have HM := Lib.hid hm
  have t37 : (s.i.op == 37) = false := by simp [e37]
  have t38 : (s.i.op == 38) = false := by simp [e38]
  have t39 : (s.i.op == 39) = false := by simp [e39]
  have t40 : (s.i.op == 40) = false := by simp [e40]
  have t41 : (s.i.op == 41) = false := by simp [e41]
  have t42 : (s.i.op == 42) = false := by simp [e42]
  have t43 : (s.i.op == 43) = false := by simp [e43]
  have t44 : (s.i.op == 44) = false := by simp [e44]
  generalize s.i.op = op at *
  clear e37 e38 e39 e40 e41 e42 e43 e44
  clear h hm
  go_enter Try.func39, Try.ntmps39
  go_wp2_with fail
  go_end0
  exact OtherPost.of hap HM.out H.out (Only.refl _ _)
end Go.Proofs.Ytpihjhfaeloapaa
namespace Go.Proofs.Ytpihjhfaeloapaa
open Go.RowKit On Th
def Sp.bitw (s : Sp) : Option Sp :=
  if s.i.op = 8 then some ((s.sign s.i.imm).setR s.i.d.toNat s.i.imm)
  else if s.i.op = 1 then some (s.shifted 1 s.rm s.i.imm s.i.d.toNat)
  else if s.i.op = 2 then some (s.shifted 2 s.rm s.i.imm s.i.d.toNat)
  else if s.i.op = 3 then some (s.shifted 3 s.rm s.i.imm s.i.d.toNat)
  else if s.i.op = 14 then some (s.shifted 14 s.rd (s.rm % 256) s.i.d.toNat)
  else if s.i.op = 15 then some (s.shifted 15 s.rd (s.rm % 256) s.i.d.toNat)
  else if s.i.op = 16 then some (s.shifted 16 s.rd (s.rm % 256) s.i.d.toNat)
  else if s.i.op = 19 then some (s.shifted 19 s.rd (s.rm % 256) s.i.d.toNat)
  else if s.i.op = 12 then some ((s.sign (bits .and .u32 s.rd s.rm)).setR s.i.d.toNat (bits .and .u32 s.rd s.rm))
  else if s.i.op = 13 then some ((s.sign (bits .xor .u32 s.rd s.rm)).setR s.i.d.toNat (bits .xor .u32 s.rd s.rm))
  else if s.i.op = 20 then some (s.sign (bits .and .u32 s.rd s.rm))
  else if s.i.op = 24 then some ((s.sign (bits .or .u32 s.rd s.rm)).setR s.i.d.toNat (bits .or .u32 s.rd s.rm))
  else if s.i.op = 25 then some ((s.sign (s.rd * s.rm % 4294967296)).setR s.i.d.toNat (s.rd * s.rm % 4294967296))
  else if s.i.op = 26 then some ((s.sign (bits .andNot .u32 s.rd s.rm)).setR s.i.d.toNat (bits .andNot .u32 s.rd s.rm))
  else if s.i.op = 27 then some ((s.sign (4294967295 - s.rm)).setR s.i.d.toNat (4294967295 - s.rm))
  else if s.i.op = 28 then some (s.setR s.i.d.toNat s.rm)
  else none
def Sp.memS (s : Sp) (f : Nat → Int) : Option (Sp × (Nat → Int)) :=
  if s.i.op = 29 then some ((s.setR s.i.d.toNat (wordS f s.addr).1).memEnd s.addr (wordS f s.addr).2, f)
  else if s.i.op = 31 then some ((s.setR s.i.d.toNat (wordS f s.addr).1).memEnd s.addr (wordS f s.addr).2, f)
  else if s.i.op = 35 then some ((s.setR s.i.d.toNat (wordS f s.addr).1).memEnd s.addr (wordS f s.addr).2, f)
  else if s.i.op = 33 then some ((s.setR s.i.d.toNat (byteS f s.addr).1).memEnd s.addr (byteS f s.addr).2, f)
  else if s.i.op = 30 then some (s.memEnd s.addr (setWordS f s.addr s.rd).2, (setWordS f s.addr s.rd).1)
  else if s.i.op = 32 then some (s.memEnd s.addr (setWordS f s.addr s.rd).2, (setWordS f s.addr s.rd).1)
  else if s.i.op = 36 then some (s.memEnd s.addr (setWordS f s.addr s.rd).2, (setWordS f s.addr s.rd).1)
  else if s.i.op = 34 then some (s.memEnd s.addr (setByteS f s.addr (s.rd % 256)).2, (setByteS f s.addr (s.rd % 256)).1)
  else none
def Sp.otherS (s : Sp) (f : Nat → Int) : Sp × (Nat → Int) :=
  if s.i.op = 37 then (s.setR 13 ((s.c.R.getD 13 0 + s.i.imm) % 4294967296), f)
  else if s.i.op = 38 then (s.setR 13 ((s.c.R.getD 13 0 - s.i.imm) % 4294967296), f)
  else if s.i.op = 39 then (s.push, pushF s f)
  else if s.i.op = 40 then (s.pop f, f)
  else if s.i.op = 41 then (if s.c.holds s.i.cond then s.branch 3 else s, f)
  else if s.i.op = 42 then (s.branch 3, f)
  else if s.i.op = 43 then ((s.setR 14 (bits .or .u32 (s.at_ + 4) 1)).branch 4, f)
  else if s.i.op = 44 then ({ s with c := { s.c with st := 1, num := s.i.imm } }, f)
  else (s, f)
theorem sums2_c (w : World) (p : Nat) (s : Sp) (h : SpW w p s) (hi : InsR s.i) :
    Calls Try.prog 36 #[.pointer (some ⟨p, 0, none⟩)] w fun e w' => e = .returned (.bool s.sums.isSome) ∧ SpW w' p (s.sums.getD s) ∧ Only (fun k => k = p) w w' := by
  by_cases e4 : s.i.op = 4
  · have hs : s.sums = some ((s.sum s.rn s.rm false).setR s.i.d.toNat (sumX s.rn s.rm false)) := by unfold Sp.sums; simp only [e4]; rfl
    rw [hs]
    exact sums_4 w p s h hi.ok e4 (hi.low0 (by omega)) (hi.low (by omega))
  by_cases e5 : s.i.op = 5
  · have hs : s.sums = some ((s.sum s.rn (4294967295 - s.rm) true).setR s.i.d.toNat (sumX s.rn (4294967295 - s.rm) true)) := by unfold Sp.sums; simp only [e5]; rfl
    rw [hs]
    exact sums_5 w p s h hi.ok e5 (hi.low0 (by omega)) (hi.low (by omega))
  by_cases e6 : s.i.op = 6
  · have hs : s.sums = some ((s.sum s.rn s.i.imm false).setR s.i.d.toNat (sumX s.rn s.i.imm false)) := by unfold Sp.sums; simp only [e6]; rfl
    rw [hs]
    exact sums_6 w p s h hi.ok e6 (hi.low0 (by omega)) (hi.low (by omega))
  by_cases e7 : s.i.op = 7
  · have hs : s.sums = some ((s.sum s.rn (4294967295 - s.i.imm) true).setR s.i.d.toNat (sumX s.rn (4294967295 - s.i.imm) true)) := by unfold Sp.sums; simp only [e7]; rfl
    rw [hs]
    exact sums_7 w p s h hi.ok e7 (hi.low0 (by omega)) (hi.low (by omega))
  by_cases e9 : s.i.op = 9
  · have hs : s.sums = some (s.sum s.rd (4294967295 - s.i.imm) true) := by unfold Sp.sums; simp only [e9]; rfl
    rw [hs]
    exact sums_9 w p s h hi.ok e9 (hi.low0 (by omega)) (hi.low (by omega))
  by_cases e10 : s.i.op = 10
  · have hs : s.sums = some ((s.sum s.rd s.i.imm false).setR s.i.d.toNat (sumX s.rd s.i.imm false)) := by unfold Sp.sums; simp only [e10]; rfl
    rw [hs]
    exact sums_10 w p s h hi.ok e10 (hi.low0 (by omega)) (hi.low (by omega))
  by_cases e11 : s.i.op = 11
  · have hs : s.sums = some ((s.sum s.rd (4294967295 - s.i.imm) true).setR s.i.d.toNat (sumX s.rd (4294967295 - s.i.imm) true)) := by unfold Sp.sums; simp only [e11]; rfl
    rw [hs]
    exact sums_11 w p s h hi.ok e11 (hi.low0 (by omega)) (hi.low (by omega))
  by_cases e17 : s.i.op = 17
  · have hs : s.sums = some ((s.sum s.rd s.rm s.c.cf).setR s.i.d.toNat (sumX s.rd s.rm s.c.cf)) := by unfold Sp.sums; simp only [e17]; rfl
    rw [hs]
    exact sums_17 w p s h hi.ok e17 (hi.low0 (by omega)) (hi.low (by omega))
  by_cases e18 : s.i.op = 18
  · have hs : s.sums = some ((s.sum s.rd (4294967295 - s.rm) s.c.cf).setR s.i.d.toNat (sumX s.rd (4294967295 - s.rm) s.c.cf)) := by unfold Sp.sums; simp only [e18]; rfl
    rw [hs]
    exact sums_18 w p s h hi.ok e18 (hi.low0 (by omega)) (hi.low (by omega))
  by_cases e21 : s.i.op = 21
  · have hs : s.sums = some ((s.sum 0 (4294967295 - s.rm) true).setR s.i.d.toNat (sumX 0 (4294967295 - s.rm) true)) := by unfold Sp.sums; simp only [e21]; rfl
    rw [hs]
    exact sums_21 w p s h hi.ok e21 (hi.low0 (by omega)) (hi.low (by omega))
  by_cases e22 : s.i.op = 22
  · have hs : s.sums = some (s.sum s.rd (4294967295 - s.rm) true) := by unfold Sp.sums; simp only [e22]; rfl
    rw [hs]
    exact sums_22 w p s h hi.ok e22 (hi.low0 (by omega)) (hi.low (by omega))
  by_cases e23 : s.i.op = 23
  · have hs : s.sums = some (s.sum s.rd s.rm false) := by unfold Sp.sums; simp only [e23]; rfl
    rw [hs]
    exact sums_23 w p s h hi.ok e23 (hi.low0 (by omega)) (hi.low (by omega))
  have hs : s.sums = none := by
    unfold Sp.sums
    rw [if_neg e4]
    rw [if_neg e5]
    rw [if_neg e6]
    rw [if_neg e7]
    rw [if_neg e9]
    rw [if_neg e10]
    rw [if_neg e11]
    rw [if_neg e17]
    rw [if_neg e18]
    rw [if_neg e21]
    rw [if_neg e22]
    rw [if_neg e23]
  rw [hs]
  exact sums_no w p s h hi.ok e4 e5 e6 e7 e9 e10 e11 e17 e18 e21 e22 e23
theorem bitw2_c (w : World) (p : Nat) (s : Sp) (h : SpW w p s) (hi : InsR s.i) :
    Calls Try.prog 37 #[.pointer (some ⟨p, 0, none⟩)] w fun e w' => e = .returned (.bool s.bitw.isSome) ∧ SpW w' p (s.bitw.getD s) ∧ Only (fun k => k = p) w w' := by
  by_cases e8 : s.i.op = 8
  · have hs : s.bitw = some ((s.sign s.i.imm).setR s.i.d.toNat s.i.imm) := by unfold Sp.bitw; simp only [e8]; rfl
    rw [hs]
    exact bit_8 w p s h hi.ok e8 (hi.low0 (by omega)) (hi.low (by omega))
  by_cases e1 : s.i.op = 1
  · have hs : s.bitw = some (s.shifted 1 s.rm s.i.imm s.i.d.toNat) := by unfold Sp.bitw; simp only [e1]; rfl
    rw [hs]
    exact bit_1 w p s h hi.ok e1 (hi.low0 (by omega)) (hi.sh (by omega))
  by_cases e2 : s.i.op = 2
  · have hs : s.bitw = some (s.shifted 2 s.rm s.i.imm s.i.d.toNat) := by unfold Sp.bitw; simp only [e2]; rfl
    rw [hs]
    exact bit_2 w p s h hi.ok e2 (hi.low0 (by omega)) (hi.sh (by omega))
  by_cases e3 : s.i.op = 3
  · have hs : s.bitw = some (s.shifted 3 s.rm s.i.imm s.i.d.toNat) := by unfold Sp.bitw; simp only [e3]; rfl
    rw [hs]
    exact bit_3 w p s h hi.ok e3 (hi.low0 (by omega)) (hi.sh (by omega))
  by_cases e14 : s.i.op = 14
  · have hs : s.bitw = some (s.shifted 14 s.rd (s.rm % 256) s.i.d.toNat) := by unfold Sp.bitw; simp only [e14]; rfl
    rw [hs]
    exact bit_14 w p s h hi.ok e14
  by_cases e15 : s.i.op = 15
  · have hs : s.bitw = some (s.shifted 15 s.rd (s.rm % 256) s.i.d.toNat) := by unfold Sp.bitw; simp only [e15]; rfl
    rw [hs]
    exact bit_15 w p s h hi.ok e15
  by_cases e16 : s.i.op = 16
  · have hs : s.bitw = some (s.shifted 16 s.rd (s.rm % 256) s.i.d.toNat) := by unfold Sp.bitw; simp only [e16]; rfl
    rw [hs]
    exact bit_16 w p s h hi.ok e16
  by_cases e19 : s.i.op = 19
  · have hs : s.bitw = some (s.shifted 19 s.rd (s.rm % 256) s.i.d.toNat) := by unfold Sp.bitw; simp only [e19]; rfl
    rw [hs]
    exact bit_19 w p s h hi.ok e19
  by_cases e12 : s.i.op = 12
  · have hs : s.bitw = some ((s.sign (bits .and .u32 s.rd s.rm)).setR s.i.d.toNat (bits .and .u32 s.rd s.rm)) := by unfold Sp.bitw; simp only [e12]; rfl
    rw [hs]
    exact bit_12 w p s h hi.ok e12
  by_cases e13 : s.i.op = 13
  · have hs : s.bitw = some ((s.sign (bits .xor .u32 s.rd s.rm)).setR s.i.d.toNat (bits .xor .u32 s.rd s.rm)) := by unfold Sp.bitw; simp only [e13]; rfl
    rw [hs]
    exact bit_13 w p s h hi.ok e13
  by_cases e20 : s.i.op = 20
  · have hs : s.bitw = some (s.sign (bits .and .u32 s.rd s.rm)) := by unfold Sp.bitw; simp only [e20]; rfl
    rw [hs]
    exact bit_20 w p s h hi.ok e20
  by_cases e24 : s.i.op = 24
  · have hs : s.bitw = some ((s.sign (bits .or .u32 s.rd s.rm)).setR s.i.d.toNat (bits .or .u32 s.rd s.rm)) := by unfold Sp.bitw; simp only [e24]; rfl
    rw [hs]
    exact bit_24 w p s h hi.ok e24
  by_cases e25 : s.i.op = 25
  · have hs : s.bitw = some ((s.sign (s.rd * s.rm % 4294967296)).setR s.i.d.toNat (s.rd * s.rm % 4294967296)) := by unfold Sp.bitw; simp only [e25]; rfl
    rw [hs]
    exact bit_25 w p s h hi.ok e25
  by_cases e26 : s.i.op = 26
  · have hs : s.bitw = some ((s.sign (bits .andNot .u32 s.rd s.rm)).setR s.i.d.toNat (bits .andNot .u32 s.rd s.rm)) := by unfold Sp.bitw; simp only [e26]; rfl
    rw [hs]
    exact bit_26 w p s h hi.ok e26
  by_cases e27 : s.i.op = 27
  · have hs : s.bitw = some ((s.sign (4294967295 - s.rm)).setR s.i.d.toNat (4294967295 - s.rm)) := by unfold Sp.bitw; simp only [e27]; rfl
    rw [hs]
    exact bit_27 w p s h hi.ok e27
  by_cases e28 : s.i.op = 28
  · have hs : s.bitw = some (s.setR s.i.d.toNat s.rm) := by unfold Sp.bitw; simp only [e28]; rfl
    rw [hs]
    exact bit_28 w p s h hi.ok e28
  have hs : s.bitw = none := by
    unfold Sp.bitw
    rw [if_neg e8]
    rw [if_neg e1]
    rw [if_neg e2]
    rw [if_neg e3]
    rw [if_neg e14]
    rw [if_neg e15]
    rw [if_neg e16]
    rw [if_neg e19]
    rw [if_neg e12]
    rw [if_neg e13]
    rw [if_neg e20]
    rw [if_neg e24]
    rw [if_neg e25]
    rw [if_neg e26]
    rw [if_neg e27]
    rw [if_neg e28]
  rw [hs]
  exact bitwise_no w p s h hi.ok e8 e1 e2 e3 e14 e15 e16 e19 e12 e13 e20 e24 e25 e26 e27 e28
theorem mem2_c (w : World) (p m g : Nat) (s : Sp) (f : Nat → Int) (h : SpW w p s) (hi : InsR s.i) (hm : MW w m g f) (hsm : s.m = .pointer (some ⟨m, 0, none⟩)) :
    Calls Try.prog 38 #[.pointer (some ⟨p, 0, none⟩)] w fun e w' => e = .returned (.bool (s.memS f).isSome) ∧ SpW w' p ((s.memS f).getD (s, f)).1 ∧ MW w' m g ((s.memS f).getD (s, f)).2 ∧ Only (fun k => k = p ∨ k = g) w w' := by
  by_cases e29 : s.i.op = 29
  · have hs : s.memS f = some ((s.setR s.i.d.toNat (wordS f s.addr).1).memEnd s.addr (wordS f s.addr).2, f) := by unfold Sp.memS; simp only [e29]; rfl
    rw [hs]
    exact mem_29 w p m g s f h hi.ok hm hsm e29
  by_cases e31 : s.i.op = 31
  · have hs : s.memS f = some ((s.setR s.i.d.toNat (wordS f s.addr).1).memEnd s.addr (wordS f s.addr).2, f) := by unfold Sp.memS; simp only [e31]; rfl
    rw [hs]
    exact mem_31 w p m g s f h hi.ok hm hsm e31 (hi.low0 (by omega)) (hi.mid (by omega))
  by_cases e35 : s.i.op = 35
  · have hs : s.memS f = some ((s.setR s.i.d.toNat (wordS f s.addr).1).memEnd s.addr (wordS f s.addr).2, f) := by unfold Sp.memS; simp only [e35]; rfl
    rw [hs]
    exact mem_35 w p m g s f h hi.ok hm hsm e35 (hi.low0 (by omega)) (hi.mid (by omega))
  by_cases e33 : s.i.op = 33
  · have hs : s.memS f = some ((s.setR s.i.d.toNat (byteS f s.addr).1).memEnd s.addr (byteS f s.addr).2, f) := by unfold Sp.memS; simp only [e33]; rfl
    rw [hs]
    exact mem_33 w p m g s f h hi.ok hm hsm e33 (hi.low0 (by omega)) (hi.mid (by omega))
  by_cases e30 : s.i.op = 30
  · have hs : s.memS f = some (s.memEnd s.addr (setWordS f s.addr s.rd).2, (setWordS f s.addr s.rd).1) := by unfold Sp.memS; simp only [e30]; rfl
    rw [hs]
    exact mem_30 w p m g s f h hi.ok hm hsm e30
  by_cases e32 : s.i.op = 32
  · have hs : s.memS f = some (s.memEnd s.addr (setWordS f s.addr s.rd).2, (setWordS f s.addr s.rd).1) := by unfold Sp.memS; simp only [e32]; rfl
    rw [hs]
    exact mem_32 w p m g s f h hi.ok hm hsm e32 (hi.low0 (by omega)) (hi.mid (by omega))
  by_cases e36 : s.i.op = 36
  · have hs : s.memS f = some (s.memEnd s.addr (setWordS f s.addr s.rd).2, (setWordS f s.addr s.rd).1) := by unfold Sp.memS; simp only [e36]; rfl
    rw [hs]
    exact mem_36 w p m g s f h hi.ok hm hsm e36 (hi.low0 (by omega)) (hi.mid (by omega))
  by_cases e34 : s.i.op = 34
  · have hs : s.memS f = some (s.memEnd s.addr (setByteS f s.addr (s.rd % 256)).2, (setByteS f s.addr (s.rd % 256)).1) := by unfold Sp.memS; simp only [e34]; rfl
    rw [hs]
    exact mem_34 w p m g s f h hi.ok hm hsm e34 (hi.low0 (by omega)) (hi.mid (by omega))
  have hs : s.memS f = none := by
    unfold Sp.memS
    rw [if_neg e29]
    rw [if_neg e31]
    rw [if_neg e35]
    rw [if_neg e33]
    rw [if_neg e30]
    rw [if_neg e32]
    rw [if_neg e36]
    rw [if_neg e34]
  rw [hs]
  exact (memory_no w p s h hi.ok e29 e31 e35 e33 e30 e32 e36 e34).mono fun e w' ⟨h1, h2, h3⟩ => ⟨h1, h2, hm.only h3 (fun e => (h.apart hm).1 e.symm) (fun e => (h.apart hm).2 e.symm), h3.mono (fun _ _ e => .inl e)⟩
theorem other2_c (w : World) (p m g : Nat) (s : Sp) (f : Nat → Int) (h : SpW w p s) (hi : InsR s.i) (hm : MW w m g f) (hsm : s.m = .pointer (some ⟨m, 0, none⟩)) (hft : s.fault = false) (ha0 : 0 ≤ s.at_) (ha1 : s.at_ < 131072) :
    Calls Try.prog 39 #[.pointer (some ⟨p, 0, none⟩)] w (OtherPost p m g (s.otherS f).1 (s.otherS f).2 w) := by
  by_cases e37 : s.i.op = 37
  · have hs : s.otherS f = (s.setR 13 ((s.c.R.getD 13 0 + s.i.imm) % 4294967296), f) := by unfold Sp.otherS; simp only [e37]; rfl
    rw [hs]
    exact other_37 w p m g s f h hm e37 (hi.low0 (by omega)) ((hi.sp (by omega)).2 (by omega))
  by_cases e38 : s.i.op = 38
  · have hs : s.otherS f = (s.setR 13 ((s.c.R.getD 13 0 - s.i.imm) % 4294967296), f) := by unfold Sp.otherS; simp only [e38]; rfl
    rw [hs]
    exact other_38 w p m g s f h hm e38 (hi.low0 (by omega)) ((hi.sp (by omega)).2 (by omega))
  by_cases e39 : s.i.op = 39
  · have hs : s.otherS f = (s.push, pushF s f) := by unfold Sp.otherS; simp only [e39]; rfl
    rw [hs]
    exact other_39 w p m g s f h hm e39 hsm (hi.low0 (by omega)) (hi.lst (by omega)).2 hft
  by_cases e40 : s.i.op = 40
  · have hs : s.otherS f = (s.pop f, f) := by unfold Sp.otherS; simp only [e40]; rfl
    rw [hs]
    exact other_40 w p m g s f h hm e40 hsm (hi.low0 (by omega)) (hi.lst (by omega)).2
  by_cases e41 : s.i.op = 41
  · have hs : s.otherS f = (if s.c.holds s.i.cond then s.branch 3 else s, f) := by unfold Sp.otherS; rw [e41]; rfl
    rw [hs]
    dsimp only
    cases hb : s.c.holds s.i.cond
    · rw [if_neg Bool.false_ne_true]; exact other_41n w p m g s f h hm e41 ha0 ha1 hi.c0 hi.c1 hb
    · rw [if_pos rfl]; exact other_41y w p m g s f h hm e41 ha0 ha1 hi.c0 hi.c1 hb
  by_cases e42 : s.i.op = 42
  · have hs : s.otherS f = (s.branch 3, f) := by unfold Sp.otherS; simp only [e42]; rfl
    rw [hs]
    exact other_42 w p m g s f h hm e42 ha0 ha1
  by_cases e43 : s.i.op = 43
  · have hs : s.otherS f = ((s.setR 14 (bits .or .u32 (s.at_ + 4) 1)).branch 4, f) := by unfold Sp.otherS; simp only [e43]; rfl
    rw [hs]
    exact other_43 w p m g s f h hm e43 ha0 ha1
  by_cases e44 : s.i.op = 44
  · have hs : s.otherS f = ({ s with c := { s.c with st := 1, num := s.i.imm } }, f) := by unfold Sp.otherS; simp only [e44]; rfl
    rw [hs]
    exact other_44 w p m g s f h hm e44 
  have hs : s.otherS f = (s, f) := by
    unfold Sp.otherS
    rw [if_neg e37]
    rw [if_neg e38]
    rw [if_neg e39]
    rw [if_neg e40]
    rw [if_neg e41]
    rw [if_neg e42]
    rw [if_neg e43]
    rw [if_neg e44]
  rw [hs]
  exact other_no w p m g s f h hm e37 e38 e39 e40 e41 e42 e43 e44
/-- what an instruction does -/
def Sp.exec (s : Sp) (f : Nat → Int) : Sp × (Nat → Int) :=
  match s.sums with
  | some s' => (s', f)
  | none => match s.bitw with
    | some s' => (s', f)
    | none => match s.memS f with
      | some r => r
      | none => s.otherS f
end Go.Proofs.Ytpihjhfaeloapaa
