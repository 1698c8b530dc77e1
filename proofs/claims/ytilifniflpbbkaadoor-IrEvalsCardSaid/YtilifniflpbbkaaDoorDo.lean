/- ir's do. -/
import Derived.Test.YtilifniflpbbkaaDoorIr3
import Derived.Test.YtilifniflpbbkaaDoorSum
import Derived.StillTailTactics
import Derived.BigRegion
namespace Go.Proofs.YtilifniflpbbkaaDoor
open Go.RowKit On
namespace Nd
/-- the registers behind a node -/
def step (xs : List Int) : Nd → List Int
  | const d n => xs.set d.toNat n
  | move d s => xs.set d.toNat (xs.getD s.toNat 0)
  | bin op d a b => xs.set d.toNat (Wd.ask op (xs.getD a.toNat 0) (xs.getD b.toNat 0))
  | un op d a => xs.set d.toNat (oneS op (xs.getD a.toNat 0))
  | choose d c a b => xs.set d.toNat (Wd.choose (xs.getD c.toNat 0) (xs.getD a.toNat 0) (xs.getD b.toNat 0))
  | _ => xs
/-- the node that comes next -/
def go (xs : List Int) (at_ : Int) : Nd → Int
  | goto t => t
  | branch c t => if xs.getD c.toNat 0 = 0 then at_ + 1 else t
  | _ => at_ + 1
theorem step_len (xs : List Int) (n : Nd) : (n.step xs).length = xs.length := by cases n <;> simp [step]
end Nd
/-- the registers, in a row of the call's own -/
def Regs (B : Nat) (w : World) (v : Value) (xs : List Int) : Prop := w.ownsRow B 21 1 v xs.length (xs.map (Value.int .i32))
theorem Regs.only {B : Nat} {w w' : World} {v : Value} {xs : List Int} {S : Nat → Prop} (h : Regs B w v xs) (hO : Only S w w') (hn : ∀ k, v.ownBlock = some k → ¬ S k) : Regs B w' v xs := own_only h hO hn
theorem Regs.at {B : Nat} {w : World} {v : Value} {xs : List Int} (h : Regs B w v xs) {k : Nat} (hk : k < xs.length) :
    ∃ g c, v = .slice (some ⟨g, 0, none⟩) xs.length c ∧ xs.length ≤ c ∧ c ≤ maxLen ∧ B ≤ g ∧ ∃ cur, Blk w g 21 cur ∧ cur.size = c ∧ ∀ i, i < xs.length → cur[i]? = some (.int .i32 (xs.getD i 0)) := by
  obtain ⟨A, c, rfl, ⟨_, h0, _⟩ | ⟨g, cur, rfl, hb, hg, h1, h2, h3, h4⟩⟩ := own_slice h
  · omega
  · refine ⟨g, c, rfl, h1, h2, hb, cur, hg, by omega, fun i hi => ?_⟩
    have : (cur.toList.take (xs.length * 1))[i]? = some (.int .i32 (xs.getD i 0)) := by
      rw [h4, List.getElem?_map, List.getElem?_eq_getElem hi, List.getD_eq_getElem?_getD, List.getElem?_eq_getElem hi]; rfl
    rw [List.getElem?_take, if_pos (by omega)] at this
    rw [← Array.getElem?_toList]; exact this
theorem Regs.set {B : Nat} {w : World} {g c : Nat} {xs : List Int} (h : Regs B w (.slice (some ⟨g, 0, none⟩) xs.length c) xs) {k : Nat} (u : Int) :
    Regs B (w.setCell ⟨g, k, none⟩ (.int .i32 u)) (.slice (some ⟨g, 0, none⟩) xs.length c) (xs.set k u) := by
  obtain ⟨A, c', e, ⟨rfl, _, _⟩ | ⟨g', cur, rfl, hb, hg, h1, h2, h3, h4⟩⟩ := own_slice h
  · cases e
  · injection e with e1 _ e3
    injection e1 with e1
    injection e1 with e1
    subst e1; subst e3
    refine ⟨by simp, .inr ⟨g, c, cur.setIfInBounds k (.int .i32 u), by rw [List.length_set], hb, hg.set k _, by simpa using h1, h2, by simpa using h3, ?_⟩⟩
    rw [List.length_set, List.map_set, Array.toList_setIfInBounds, List.take_set, h4]
theorem inS_nat {d : Int} {n : Nat} (h : inS d n = true) : ∃ k : Nat, d = k ∧ k < n := by
  unfold inS at h
  simp at h
  exact ⟨d.toNat, by omega, by omega⟩
def DoAt (B : Nat) (v : Value) (xs : List Int) (j : Int) (w : World) (e : Ending) (w' : World) : Prop :=
  e = .returned (.int .i64 j) ∧ Regs B w' v xs ∧ Only (fun k => v.ownBlock = some k) w w'
set_option maxHeartbeats 16000000 in
set_option maxRecDepth 100000 in
theorem do_bin (op d a b : Int) (B : Nat) (v : Value) (xs : List Int) (at_ : Int) (h0 : 0 ≤ at_) (h1 : at_ < 100000) (w : World) (hv : Regs B w v xs) (hR : ∀ x ∈ xs, Wd.R x)
    (hop : binS op = true) (hd' : inS d xs.length = true) (ha' : inS a xs.length = true) (hb' : inS b xs.length = true) :
    Calls Tryd.prog 34 #[(Nd.bin op d a b).val, v, .int .i64 at_] w (DoAt B v ((Nd.bin op d a b).step xs) (at_ + 1) w) := by
  have aConst := taConst; have aMove := taMove; have aBin := taBin
  obtain ⟨d, rfl, hd⟩ := inS_nat hd'
  obtain ⟨a, rfl, ha⟩ := inS_nat ha'
  obtain ⟨b, rfl, hb⟩ := inS_nat hb'
  obtain ⟨g, cap, rfl, hc1, hc2, hBg, cur, hg, hcs, hcur⟩ := hv.at hd
  have ra : Wd.R (xs.getD a 0) := hR _ (by rw [List.getD_eq_getElem?_getD, List.getElem?_eq_getElem ha]; exact List.getElem_mem ha)
  have rb : Wd.R (xs.getD b 0) := hR _ (by rw [List.getD_eq_getElem?_getD, List.getElem?_eq_getElem hb]; exact List.getElem_mem hb)
  dsimp only [Nd.val, Nd.step, Int.toNat_natCast]
  have cd : w.cell? ⟨g, d, none⟩ = some (.int .i32 (xs.getD d 0)) := by rw [hg.cell, hcur d hd]
  have ca : w.cell? ⟨g, a, none⟩ = some (.int .i32 (xs.getD a 0)) := by rw [hg.cell, hcur a ha]
  have cb : w.cell? ⟨g, b, none⟩ = some (.int .i32 (xs.getD b 0)) := by rw [hg.cell, hcur b hb]
  have fd := hg.frozen d
  have hgl : g < w.heap.size := hg.lt
  have HV := Lib.hid hv
  have p1 := fun w => (sum_c op _ _ hop ra rb w).mono (R' := fun e w' => e = .returned (.int .i32 (Wd.ask op (xs.getD a 0) (xs.getD b 0))) ∧ w' = w) (fun _ _ ⟨h1, h2⟩ => ⟨h1, h2.symm⟩)
  generalize xs.getD d 0 = xd at *
  generalize xs.getD a 0 = xa at *
  generalize xs.getD b 0 = xb at *
  generalize Wd.ask op xa xb = r at *
  clear hd' ha' hb' hv hcur hcs hBg hg hR ra rb
  obtain ⟨n, hn⟩ : ∃ n, xs.length = n := ⟨_, rfl⟩
  rw [hn] at hd ha hb hc1 ⊢
  have HN := Lib.hid hn
  clear hn
  go_enter Tryd.func34, Tryd.ntmps34
  go_wp2_with fail
  obtain ⟨wn, hwn⟩ : ∃ wn, wn = w.alloc (.cells #[.int .i64 op, .int .i64 d, .int .i64 a, .int .i64 b] 71) := ⟨_, rfl⟩
  obtain ⟨X, hX⟩ : ∃ X, X = w.heap.size := ⟨_, rfl⟩
  have kb : Blk wn X 71 #[.int .i64 op, .int .i64 d, .int .i64 a, .int .i64 b] := by rw [hwn, hX]; exact Blk.new _ _ _
  rw [← hwn, ← hX]
  have HVN : Hid (Regs B wn (.slice (some ⟨g, 0, none⟩) n cap) xs) := by rw [hwn, ← HN.out]; exact HV.out.only ((Only.refl (fun _ => False) w).alloc _) (fun _ _ => id)
  have HON : Hid (Only (fun k => (Value.slice (some ⟨g, 0, none⟩) n cap).ownBlock = some k) w wn) := by rw [hwn]; exact (Only.refl _ w).alloc _
  have cd' : wn.cell? ⟨g, d, none⟩ = some (.int .i32 xd) := by rw [hwn, ((Only.refl (fun _ => False) w).alloc _).cell (p := ⟨g, d, none⟩) hgl id]; exact cd
  have ca' : wn.cell? ⟨g, a, none⟩ = some (.int .i32 xa) := by rw [hwn, ((Only.refl (fun _ => False) w).alloc _).cell (p := ⟨g, a, none⟩) hgl id]; exact ca
  have cb' : wn.cell? ⟨g, b, none⟩ = some (.int .i32 xb) := by rw [hwn, ((Only.refl (fun _ => False) w).alloc _).cell (p := ⟨g, b, none⟩) hgl id]; exact cb
  have fd' : wn.frozen? ⟨g, d, none⟩ = false := by rw [hwn, ((Only.refl (fun _ => False) w).alloc _).frozen (p := ⟨g, d, none⟩) hgl id]; exact fd
  have b0 := kb.cell 0
  have b1 := kb.cell 1
  have b2 := kb.cell 2
  have b3 := kb.cell 3
  simp at b0 b1 b2 b3
  clear cd ca cb fd hwn hX kb HV
  go_still_tail 16, (by kernel_rfl)
  still_call (p1 _)
  refine wpStill_nil ?_
  change wpList _ _ _ _ _ wn.drew
  obtain ⟨wd, hwd⟩ : ∃ wd, wd = wn.drew := ⟨_, rfl⟩
  have ed : wd.cell? ⟨g, d, none⟩ = some (.int .i32 xd) := by rw [hwd]; exact cd'
  have ea : wd.cell? ⟨g, a, none⟩ = some (.int .i32 xa) := by rw [hwd]; exact ca'
  have eb : wd.cell? ⟨g, b, none⟩ = some (.int .i32 xb) := by rw [hwd]; exact cb'
  have fd2 : wd.frozen? ⟨g, d, none⟩ = false := by rw [hwd]; exact fd'
  have HV2 : Hid (Regs B wd (.slice (some ⟨g, 0, none⟩) n cap) xs) := by rw [hwd]; exact HVN.out
  have HO2 : Hid (Only (fun k => (Value.slice (some ⟨g, 0, none⟩) n cap).ownBlock = some k) w wd) := by rw [hwd]; exact HON.out.drew
  rw [← hwd]
  clear hwd cd' ca' cb' fd' b0 b1 b2 b3 HVN HON
  go_wp2_with fail
  go_ret
  exact ⟨rfl, by rw [← HN.out] at HV2 ⊢; exact HV2.out.set r, HO2.out.setCell (p := ⟨g, d, none⟩) (.inl rfl) _⟩
set_option maxHeartbeats 16000000 in
set_option maxRecDepth 100000 in
theorem do_un (op d a : Int) (B : Nat) (v : Value) (xs : List Int) (at_ : Int) (h0 : 0 ≤ at_) (h1 : at_ < 100000) (w : World) (hv : Regs B w v xs) (hR : ∀ x ∈ xs, Wd.R x)
    (hop : unS op = true) (hd' : inS d xs.length = true) (ha' : inS a xs.length = true) :
    Calls Tryd.prog 34 #[(Nd.un op d a).val, v, .int .i64 at_] w (DoAt B v ((Nd.un op d a).step xs) (at_ + 1) w) := by
  have aConst := taConst; have aMove := taMove; have aBin := taBin; have aUn := taUn
  obtain ⟨d, rfl, hd⟩ := inS_nat hd'
  obtain ⟨a, rfl, ha⟩ := inS_nat ha'
  obtain ⟨g, cap, rfl, hc1, hc2, hBg, cur, hg, hcs, hcur⟩ := hv.at hd
  have ra : Wd.R (xs.getD a 0) := hR _ (by rw [List.getD_eq_getElem?_getD, List.getElem?_eq_getElem ha]; exact List.getElem_mem ha)
  dsimp only [Nd.val, Nd.step, Int.toNat_natCast]
  have cd : w.cell? ⟨g, d, none⟩ = some (.int .i32 (xs.getD d 0)) := by rw [hg.cell, hcur d hd]
  have ca : w.cell? ⟨g, a, none⟩ = some (.int .i32 (xs.getD a 0)) := by rw [hg.cell, hcur a ha]
  have fd := hg.frozen d
  have hgl : g < w.heap.size := hg.lt
  have HV := Lib.hid hv
  have p1 := fun w => (one_c op _ hop ra w).mono (R' := fun e w' => e = .returned (.int .i32 (oneS op (xs.getD a 0))) ∧ w' = w) (fun _ _ ⟨h1, h2⟩ => ⟨h1, h2.symm⟩)
  generalize xs.getD d 0 = xd at *
  generalize xs.getD a 0 = xa at *
  generalize oneS op xa = r at *
  clear hd' ha' hv hcur hcs hBg hg hR ra
  obtain ⟨n, hn⟩ : ∃ n, xs.length = n := ⟨_, rfl⟩
  rw [hn] at hd ha hc1 ⊢
  have HN := Lib.hid hn
  clear hn
  go_enter Tryd.func34, Tryd.ntmps34
  go_wp2_with fail
  obtain ⟨wn, hwn⟩ : ∃ wn, wn = w.alloc (.cells #[.int .i64 op, .int .i64 d, .int .i64 a] 74) := ⟨_, rfl⟩
  obtain ⟨X, hX⟩ : ∃ X, X = w.heap.size := ⟨_, rfl⟩
  have kb : Blk wn X 74 #[.int .i64 op, .int .i64 d, .int .i64 a] := by rw [hwn, hX]; exact Blk.new _ _ _
  rw [← hwn, ← hX]
  have HVN : Hid (Regs B wn (.slice (some ⟨g, 0, none⟩) n cap) xs) := by rw [hwn, ← HN.out]; exact HV.out.only ((Only.refl (fun _ => False) w).alloc _) (fun _ _ => id)
  have HON : Hid (Only (fun k => (Value.slice (some ⟨g, 0, none⟩) n cap).ownBlock = some k) w wn) := by rw [hwn]; exact (Only.refl _ w).alloc _
  have cd' : wn.cell? ⟨g, d, none⟩ = some (.int .i32 xd) := by rw [hwn, ((Only.refl (fun _ => False) w).alloc _).cell (p := ⟨g, d, none⟩) hgl id]; exact cd
  have ca' : wn.cell? ⟨g, a, none⟩ = some (.int .i32 xa) := by rw [hwn, ((Only.refl (fun _ => False) w).alloc _).cell (p := ⟨g, a, none⟩) hgl id]; exact ca
  have fd' : wn.frozen? ⟨g, d, none⟩ = false := by rw [hwn, ((Only.refl (fun _ => False) w).alloc _).frozen (p := ⟨g, d, none⟩) hgl id]; exact fd
  have b0 := kb.cell 0
  have b1 := kb.cell 1
  have b2 := kb.cell 2
  simp at b0 b1 b2
  clear cd ca fd hwn hX kb HV
  go_still_tail 11, (by kernel_rfl)
  still_call (p1 _)
  refine wpStill_nil ?_
  change wpList _ _ _ _ _ wn.drew
  obtain ⟨wd, hwd⟩ : ∃ wd, wd = wn.drew := ⟨_, rfl⟩
  have ed : wd.cell? ⟨g, d, none⟩ = some (.int .i32 xd) := by rw [hwd]; exact cd'
  have ea : wd.cell? ⟨g, a, none⟩ = some (.int .i32 xa) := by rw [hwd]; exact ca'
  have fd2 : wd.frozen? ⟨g, d, none⟩ = false := by rw [hwd]; exact fd'
  have HV2 : Hid (Regs B wd (.slice (some ⟨g, 0, none⟩) n cap) xs) := by rw [hwd]; exact HVN.out
  have HO2 : Hid (Only (fun k => (Value.slice (some ⟨g, 0, none⟩) n cap).ownBlock = some k) w wd) := by rw [hwd]; exact HON.out.drew
  rw [← hwd]
  clear hwd cd' ca' fd' b0 b1 b2 HVN HON
  go_wp2_with fail
  go_ret
  exact ⟨rfl, by rw [← HN.out] at HV2 ⊢; exact HV2.out.set r, HO2.out.setCell (p := ⟨g, d, none⟩) (.inl rfl) _⟩
set_option maxHeartbeats 16000000 in
set_option maxRecDepth 100000 in
theorem do_choose (d c a b : Int) (B : Nat) (v : Value) (xs : List Int) (at_ : Int) (h0 : 0 ≤ at_) (h1 : at_ < 100000) (w : World) (hv : Regs B w v xs) (hR : ∀ x ∈ xs, Wd.R x)
    (hd' : inS d xs.length = true) (hc' : inS c xs.length = true) (ha' : inS a xs.length = true) (hb' : inS b xs.length = true) :
    Calls Tryd.prog 34 #[(Nd.choose d c a b).val, v, .int .i64 at_] w (DoAt B v ((Nd.choose d c a b).step xs) (at_ + 1) w) := by
  have aConst := taConst; have aMove := taMove; have aBin := taBin; have aUn := taUn; have aChoose := taChoose
  obtain ⟨d, rfl, hd⟩ := inS_nat hd'
  obtain ⟨c, rfl, hc⟩ := inS_nat hc'
  obtain ⟨a, rfl, ha⟩ := inS_nat ha'
  obtain ⟨b, rfl, hb⟩ := inS_nat hb'
  obtain ⟨g, cap, rfl, hc1, hc2, hBg, cur, hg, hcs, hcur⟩ := hv.at hd
  have rc : Wd.R (xs.getD c 0) := hR _ (by rw [List.getD_eq_getElem?_getD, List.getElem?_eq_getElem hc]; exact List.getElem_mem hc)
  have ra : Wd.R (xs.getD a 0) := hR _ (by rw [List.getD_eq_getElem?_getD, List.getElem?_eq_getElem ha]; exact List.getElem_mem ha)
  have rb : Wd.R (xs.getD b 0) := hR _ (by rw [List.getD_eq_getElem?_getD, List.getElem?_eq_getElem hb]; exact List.getElem_mem hb)
  dsimp only [Nd.val, Nd.step, Int.toNat_natCast]
  have cd : w.cell? ⟨g, d, none⟩ = some (.int .i32 (xs.getD d 0)) := by rw [hg.cell, hcur d hd]
  have cc : w.cell? ⟨g, c, none⟩ = some (.int .i32 (xs.getD c 0)) := by rw [hg.cell, hcur c hc]
  have ca : w.cell? ⟨g, a, none⟩ = some (.int .i32 (xs.getD a 0)) := by rw [hg.cell, hcur a ha]
  have cb : w.cell? ⟨g, b, none⟩ = some (.int .i32 (xs.getD b 0)) := by rw [hg.cell, hcur b hb]
  have fd := hg.frozen d
  have hgl : g < w.heap.size := hg.lt
  have HV := Lib.hid hv
  have p1 := fun w => (pick_c (xs.getD c 0) (xs.getD a 0) (xs.getD b 0) w).mono (R' := fun e w' => e = .returned (.int .i32 (Wd.choose (xs.getD c 0) (xs.getD a 0) (xs.getD b 0))) ∧ w' = w) (fun _ _ ⟨h1, h2⟩ => ⟨by rw [h1, Wd.pick_choose rc ra rb], h2.symm⟩)
  generalize xs.getD d 0 = xd at *
  generalize xs.getD c 0 = xc at *
  generalize xs.getD a 0 = xa at *
  generalize xs.getD b 0 = xb at *
  generalize Wd.choose xc xa xb = r at *
  clear hd' hc' ha' hb' hv hcur hcs hBg hg hR rc ra rb
  obtain ⟨n, hn⟩ : ∃ n, xs.length = n := ⟨_, rfl⟩
  rw [hn] at hd hc ha hb hc1 ⊢
  have HN := Lib.hid hn
  clear hn
  go_enter Tryd.func34, Tryd.ntmps34
  go_wp2_with fail
  obtain ⟨wn, hwn⟩ : ∃ wn, wn = w.alloc (.cells #[.int .i64 d, .int .i64 c, .int .i64 a, .int .i64 b] 76) := ⟨_, rfl⟩
  obtain ⟨X, hX⟩ : ∃ X, X = w.heap.size := ⟨_, rfl⟩
  have kb : Blk wn X 76 #[.int .i64 d, .int .i64 c, .int .i64 a, .int .i64 b] := by rw [hwn, hX]; exact Blk.new _ _ _
  rw [← hwn, ← hX]
  have HVN : Hid (Regs B wn (.slice (some ⟨g, 0, none⟩) n cap) xs) := by rw [hwn, ← HN.out]; exact HV.out.only ((Only.refl (fun _ => False) w).alloc _) (fun _ _ => id)
  have HON : Hid (Only (fun k => (Value.slice (some ⟨g, 0, none⟩) n cap).ownBlock = some k) w wn) := by rw [hwn]; exact (Only.refl _ w).alloc _
  have cd' : wn.cell? ⟨g, d, none⟩ = some (.int .i32 xd) := by rw [hwn, ((Only.refl (fun _ => False) w).alloc _).cell (p := ⟨g, d, none⟩) hgl id]; exact cd
  have cc' : wn.cell? ⟨g, c, none⟩ = some (.int .i32 xc) := by rw [hwn, ((Only.refl (fun _ => False) w).alloc _).cell (p := ⟨g, c, none⟩) hgl id]; exact cc
  have ca' : wn.cell? ⟨g, a, none⟩ = some (.int .i32 xa) := by rw [hwn, ((Only.refl (fun _ => False) w).alloc _).cell (p := ⟨g, a, none⟩) hgl id]; exact ca
  have cb' : wn.cell? ⟨g, b, none⟩ = some (.int .i32 xb) := by rw [hwn, ((Only.refl (fun _ => False) w).alloc _).cell (p := ⟨g, b, none⟩) hgl id]; exact cb
  have fd' : wn.frozen? ⟨g, d, none⟩ = false := by rw [hwn, ((Only.refl (fun _ => False) w).alloc _).frozen (p := ⟨g, d, none⟩) hgl id]; exact fd
  have b0 := kb.cell 0
  have b1 := kb.cell 1
  have b2 := kb.cell 2
  have b3 := kb.cell 3
  simp at b0 b1 b2 b3
  clear cd cc ca cb fd hwn hX kb HV
  go_still_tail 19, (by kernel_rfl)
  still_call (p1 _)
  refine wpStill_nil ?_
  change wpList _ _ _ _ _ wn.drew
  obtain ⟨wd, hwd⟩ : ∃ wd, wd = wn.drew := ⟨_, rfl⟩
  have ed : wd.cell? ⟨g, d, none⟩ = some (.int .i32 xd) := by rw [hwd]; exact cd'
  have ec : wd.cell? ⟨g, c, none⟩ = some (.int .i32 xc) := by rw [hwd]; exact cc'
  have ea : wd.cell? ⟨g, a, none⟩ = some (.int .i32 xa) := by rw [hwd]; exact ca'
  have eb : wd.cell? ⟨g, b, none⟩ = some (.int .i32 xb) := by rw [hwd]; exact cb'
  have fd2 : wd.frozen? ⟨g, d, none⟩ = false := by rw [hwd]; exact fd'
  have HV2 : Hid (Regs B wd (.slice (some ⟨g, 0, none⟩) n cap) xs) := by rw [hwd]; exact HVN.out
  have HO2 : Hid (Only (fun k => (Value.slice (some ⟨g, 0, none⟩) n cap).ownBlock = some k) w wd) := by rw [hwd]; exact HON.out.drew
  rw [← hwd]
  clear hwd cd' cc' ca' cb' fd' b0 b1 b2 b3 HVN HON
  go_wp2_with fail
  go_ret
  exact ⟨rfl, by rw [← HN.out] at HV2 ⊢; exact HV2.out.set r, HO2.out.setCell (p := ⟨g, d, none⟩) (.inl rfl) _⟩
set_option maxHeartbeats 16000000 in
set_option maxRecDepth 100000 in
theorem do_move (d a : Int) (B : Nat) (v : Value) (xs : List Int) (at_ : Int) (h0 : 0 ≤ at_) (h1 : at_ < 100000) (w : World) (hv : Regs B w v xs)
    (hd' : inS d xs.length = true) (ha' : inS a xs.length = true) :
    Calls Tryd.prog 34 #[(Nd.move d a).val, v, .int .i64 at_] w (DoAt B v ((Nd.move d a).step xs) (at_ + 1) w) := by
  have aConst := taConst; have aMove := taMove
  obtain ⟨d, rfl, hd⟩ := inS_nat hd'
  obtain ⟨a, rfl, ha⟩ := inS_nat ha'
  obtain ⟨g, cap, rfl, hc1, hc2, hBg, cur, hg, hcs, hcur⟩ := hv.at hd
  dsimp only [Nd.val, Nd.step, Int.toNat_natCast]
  have cd : w.cell? ⟨g, d, none⟩ = some (.int .i32 (xs.getD d 0)) := by rw [hg.cell, hcur d hd]
  have ca : w.cell? ⟨g, a, none⟩ = some (.int .i32 (xs.getD a 0)) := by rw [hg.cell, hcur a ha]
  have fd := hg.frozen d
  have hgl : g < w.heap.size := hg.lt
  have HV := Lib.hid hv
  generalize xs.getD d 0 = xd at *
  generalize xs.getD a 0 = xa at *
  clear hd' ha' hv hcur hcs hBg hg
  obtain ⟨n, hn⟩ : ∃ n, xs.length = n := ⟨_, rfl⟩
  rw [hn] at hd ha hc1 ⊢
  have HN := Lib.hid hn
  clear hn
  go_enter Tryd.func34, Tryd.ntmps34
  go_wp2_with fail
  obtain ⟨wn, hwn⟩ : ∃ wn, wn = w.alloc (.cells #[.int .i64 d, .int .i64 a] 68) := ⟨_, rfl⟩
  obtain ⟨X, hX⟩ : ∃ X, X = w.heap.size := ⟨_, rfl⟩
  have kb : Blk wn X 68 #[.int .i64 d, .int .i64 a] := by rw [hwn, hX]; exact Blk.new _ _ _
  rw [← hwn, ← hX]
  have HVN : Hid (Regs B wn (.slice (some ⟨g, 0, none⟩) n cap) xs) := by rw [hwn, ← HN.out]; exact HV.out.only ((Only.refl (fun _ => False) w).alloc _) (fun _ _ => id)
  have HON : Hid (Only (fun k => (Value.slice (some ⟨g, 0, none⟩) n cap).ownBlock = some k) w wn) := by rw [hwn]; exact (Only.refl _ w).alloc _
  have cd' : wn.cell? ⟨g, d, none⟩ = some (.int .i32 xd) := by rw [hwn, ((Only.refl (fun _ => False) w).alloc _).cell (p := ⟨g, d, none⟩) hgl id]; exact cd
  have ca' : wn.cell? ⟨g, a, none⟩ = some (.int .i32 xa) := by rw [hwn, ((Only.refl (fun _ => False) w).alloc _).cell (p := ⟨g, a, none⟩) hgl id]; exact ca
  have fd' : wn.frozen? ⟨g, d, none⟩ = false := by rw [hwn, ((Only.refl (fun _ => False) w).alloc _).frozen (p := ⟨g, d, none⟩) hgl id]; exact fd
  have b0 := kb.cell 0
  have b1 := kb.cell 1
  simp at b0 b1
  clear cd ca fd hwn hX kb HV
  go_still_tail 8, (by kernel_rfl)
  change wpList _ _ _ _ _ wn.drew
  obtain ⟨wd, hwd⟩ : ∃ wd, wd = wn.drew := ⟨_, rfl⟩
  have ed : wd.cell? ⟨g, d, none⟩ = some (.int .i32 xd) := by rw [hwd]; exact cd'
  have ea : wd.cell? ⟨g, a, none⟩ = some (.int .i32 xa) := by rw [hwd]; exact ca'
  have fd2 : wd.frozen? ⟨g, d, none⟩ = false := by rw [hwd]; exact fd'
  have HV2 : Hid (Regs B wd (.slice (some ⟨g, 0, none⟩) n cap) xs) := by rw [hwd]; exact HVN.out
  have HO2 : Hid (Only (fun k => (Value.slice (some ⟨g, 0, none⟩) n cap).ownBlock = some k) w wd) := by rw [hwd]; exact HON.out.drew
  rw [← hwd]
  clear hwd cd' ca' fd' b0 b1 HVN HON
  go_wp2_with fail
  go_ret
  exact ⟨rfl, by rw [← HN.out] at HV2 ⊢; exact HV2.out.set xa, HO2.out.setCell (p := ⟨g, d, none⟩) (.inl rfl) _⟩
set_option maxHeartbeats 16000000 in
set_option maxRecDepth 100000 in
theorem do_const (d u : Int) (B : Nat) (v : Value) (xs : List Int) (at_ : Int) (h0 : 0 ≤ at_) (h1 : at_ < 100000) (w : World) (hv : Regs B w v xs) (hd' : inS d xs.length = true) :
    Calls Tryd.prog 34 #[(Nd.const d u).val, v, .int .i64 at_] w (DoAt B v ((Nd.const d u).step xs) (at_ + 1) w) := by
  have aConst := taConst
  obtain ⟨d, rfl, hd⟩ := inS_nat hd'
  obtain ⟨g, cap, rfl, hc1, hc2, hBg, cur, hg, hcs, hcur⟩ := hv.at hd
  dsimp only [Nd.val, Nd.step, Int.toNat_natCast]
  have cd : w.cell? ⟨g, d, none⟩ = some (.int .i32 (xs.getD d 0)) := by rw [hg.cell, hcur d hd]
  have fd := hg.frozen d
  have hgl : g < w.heap.size := hg.lt
  have HV := Lib.hid hv
  generalize xs.getD d 0 = xd at *
  clear hd' hv hcur hcs hBg hg
  obtain ⟨n, hn⟩ : ∃ n, xs.length = n := ⟨_, rfl⟩
  rw [hn] at hd hc1 ⊢
  have HN := Lib.hid hn
  clear hn
  go_enter Tryd.func34, Tryd.ntmps34
  go_upto_region 4 with (fail)
  obtain ⟨wn, hwn⟩ : ∃ wn, wn = w.alloc (.cells #[.int .i64 d, .int .i32 u] 66) := ⟨_, rfl⟩
  obtain ⟨X, hX⟩ : ∃ X, X = w.heap.size := ⟨_, rfl⟩
  have kb : Blk wn X 66 #[.int .i64 d, .int .i32 u] := by rw [hwn, hX]; exact Blk.new _ _ _
  rw [← hwn, ← hX]
  have HVN : Hid (Regs B wn (.slice (some ⟨g, 0, none⟩) n cap) xs) := by rw [hwn, ← HN.out]; exact HV.out.only ((Only.refl (fun _ => False) w).alloc _) (fun _ _ => id)
  have HON : Hid (Only (fun k => (Value.slice (some ⟨g, 0, none⟩) n cap).ownBlock = some k) w wn) := by rw [hwn]; exact (Only.refl _ w).alloc _
  have cd' : wn.cell? ⟨g, d, none⟩ = some (.int .i32 xd) := by rw [hwn, ((Only.refl (fun _ => False) w).alloc _).cell (p := ⟨g, d, none⟩) hgl id]; exact cd
  have fd' : wn.frozen? ⟨g, d, none⟩ = false := by rw [hwn, ((Only.refl (fun _ => False) w).alloc _).frozen (p := ⟨g, d, none⟩) hgl id]; exact fd
  have b0 := kb.cell 0
  have b1 := kb.cell 1
  simp at b0 b1
  clear cd fd hwn hX kb HV
  go_wp2_with fail
  go_ret
  exact ⟨rfl, by rw [← HN.out] at HVN ⊢; exact HVN.out.set u, HON.out.setCell (p := ⟨g, d, none⟩) (.inl rfl) _⟩
theorem do_goto (t : Int) (B : Nat) (v : Value) (xs : List Int) (at_ : Int) (w : World) (hv : Regs B w v xs) :
    Calls Tryd.prog 34 #[(Nd.goto t).val, v, .int .i64 at_] w (DoAt B v xs t w) := by
  have aConst := taConst; have aMove := taMove; have aBin := taBin; have aUn := taUn; have aChoose := taChoose; have aGoto := taGoto
  have HV := Lib.hid hv
  clear hv
  dsimp only [Nd.val]
  go_enter Tryd.func34, Tryd.ntmps34
  go_wp2_with fail
  go_ret
  exact ⟨rfl, HV.out.only ((Only.refl (fun _ => False) w).alloc _) (fun _ _ => id), (Only.refl _ w).alloc _⟩
theorem do_tick (B : Nat) (v : Value) (xs : List Int) (at_ : Int) (h0 : 0 ≤ at_) (h1 : at_ < 100000) (w : World) (hv : Regs B w v xs) :
    Calls Tryd.prog 34 #[Nd.tick.val, v, .int .i64 at_] w (DoAt B v xs (at_ + 1) w) := by
  have aConst := taConst; have aMove := taMove; have aBin := taBin; have aUn := taUn; have aChoose := taChoose; have aGoto := taGoto; have aBranch := taBranch
  have HV := Lib.hid hv
  clear hv
  dsimp only [Nd.val]
  go_enter Tryd.func34, Tryd.ntmps34
  go_wp2_with fail
  go_ret
  exact ⟨rfl, HV.out, Only.refl _ w⟩
set_option maxHeartbeats 16000000 in
theorem do_branch (a t : Int) (B : Nat) (v : Value) (xs : List Int) (at_ : Int) (h0 : 0 ≤ at_) (h1 : at_ < 100000) (w : World) (hv : Regs B w v xs) (ha' : inS a xs.length = true) :
    Calls Tryd.prog 34 #[(Nd.branch a t).val, v, .int .i64 at_] w (DoAt B v xs ((Nd.branch a t).go xs at_) w) := by
  have aConst := taConst; have aMove := taMove; have aBin := taBin; have aUn := taUn; have aChoose := taChoose; have aGoto := taGoto; have aBranch := taBranch
  obtain ⟨a, rfl, ha⟩ := inS_nat ha'
  obtain ⟨g, cap, rfl, hc1, hc2, hBg, cur, hg, hcs, hcur⟩ := hv.at ha
  dsimp only [Nd.val, Nd.go, Int.toNat_natCast]
  have hgl : g < w.heap.size := hg.lt
  have ca : (w.alloc (.cells #[.int .i64 a, .int .i64 t] 80)).cell? ⟨g, a, none⟩ = some (.int .i32 (xs.getD a 0)) := by
    rw [((Only.refl (fun _ => False) w).alloc _).cell (p := ⟨g, a, none⟩) hgl id, hg.cell, hcur a ha]
  have HV := Lib.hid hv
  obtain ⟨xa, hxa⟩ : ∃ xa, xs.getD a 0 = xa := ⟨_, rfl⟩
  simp only [hxa] at ca ⊢
  clear hxa ha' hv hcur hcs hBg hg
  obtain ⟨n, hn⟩ : ∃ n, xs.length = n := ⟨_, rfl⟩
  rw [hn] at ha hc1 ⊢
  have HN := Lib.hid hn
  clear hn
  have HO : Hid (Regs B (w.alloc (.cells #[.int .i64 a, .int .i64 t] 80)) (.slice (some ⟨g, 0, none⟩) n cap) xs) := by rw [← HN.out]; exact HV.out.only ((Only.refl (fun _ => False) w).alloc _) (fun _ _ => id)
  by_cases hx : xa = 0
  · subst hx
    rw [if_pos rfl]
    go_enter Tryd.func34, Tryd.ntmps34
    go_wp2_with fail
    go_ret
    exact ⟨rfl, HO.out, (Only.refl _ w).alloc _⟩
  · have hx' : (xa != 0) = true := by simp [hx]
    rw [if_neg hx]
    go_enter Tryd.func34, Tryd.ntmps34
    go_wp2_with fail
    go_ret
    exact ⟨rfl, HO.out, (Only.refl _ w).alloc _⟩
/-- any pure node that may be -/
theorem do_c (n : Nd) (hp : n.pure = true) (cnt : Nat) (B : Nat) (v : Value) (xs : List Int) (at_ : Int) (h0 : 0 ≤ at_) (h1 : at_ < 100000) (hn : n.rightS xs.length cnt at_ = true) (w : World) (hv : Regs B w v xs) (hR : ∀ x ∈ xs, Wd.R x) :
    Calls Tryd.prog 34 #[n.val, v, .int .i64 at_] w (DoAt B v (n.step xs) (n.go xs at_) w) := by
  unfold Nd.rightS at hn
  simp only [Bool.and_eq_true, Bool.or_eq_true, beq_iff_eq] at hn
  obtain ⟨⟨⟨hf, hu⟩, hx⟩, hd⟩ := hn
  clear hx
  cases n <;> simp [Nd.pure] at hp <;> simp only [Nd.fieldsS, Nd.uses, Nd.dst, Nd.bareS, List.all_cons, List.all_nil, Bool.and_true, Bool.and_eq_true, Bool.false_eq_true, and_false, or_false] at hf hu hd
  case const d u => exact do_const d u B v xs at_ h0 h1 w hv hd
  case move d a => exact do_move d a B v xs at_ h0 h1 w hv hd hu
  case bin op d a b => exact do_bin op d a b B v xs at_ h0 h1 w hv hR hf hd hu.1 hu.2
  case un op d a => exact do_un op d a B v xs at_ h0 h1 w hv hR hf hd hu
  case choose d c a b => exact do_choose d c a b B v xs at_ h0 h1 w hv hR hd hu.1 hu.2.1 hu.2.2
  case tick => exact do_tick B v xs at_ h0 h1 w hv
  case goto t => exact do_goto t B v xs at_ w hv
  case branch a t => exact do_branch a t B v xs at_ h0 h1 w hv hu
end Go.Proofs.YtilifniflpbbkaaDoor
