/- PlainNode once more: where the registers' slice lies. -/
import Derived.Test.YtilifniflpbbkaaDoorPn
namespace Go.Proofs.YtilifniflpbbkaaDoor
open Go.RowKit On
/-- the address of a node's own slice -/
def Nd.sl : Nd → Option Addr
  | serve _ _ _ _ A _ _ => A
  | call _ _ A _ _ => A
  | callx _ _ A _ _ => A
  | _ => Option.none
/-- a plain node is handed back; its slice is the node's own, or new -/
def GivePn2 (n : Nd) (w : World) (e : Ending) (w' : World) : Prop :=
  ∃ A c, e = .returned (n.pn.val A c) ∧ Ints .i64 w' (.slice A n.pn.args.length c) n.pn.args ∧ Below w.heap.size w w' ∧ (A = n.sl ∨ ∀ g o s, A = some ⟨g, o, s⟩ → w.heap.size ≤ g)
set_option maxHeartbeats 16000000 in
set_option maxRecDepth 100000 in
theorem plain2_const (d n : Int) (w : World) (hok : (Nd.const d n).ok w) : Calls Tryd.prog 9 #[(Nd.const d n).val] w (GivePn2 (Nd.const d n) w) := by
  have aConst := taConst
  obtain ⟨hn1, hn2⟩ := hok
  dsimp only [Nd.val]
  go_enter Tryd.func9, Tryd.ntmps9
  go_wp2_with fail
  refine bodyPost_ret (results_cell_row rfl _ _ w.heap.size 30 _ (0, 0) _ (by rfl) ((Blk.new w _ _).alloc _) Tryd.underlying30 rfl (by rfl)) rfl ?_
  exact ⟨none, 0, rfl, Ints.nil _ _, ((Below.refl _ _).alloc (Nat.le_refl _) _).alloc (by simp) _, .inr (fun g o s h => by cases h)⟩
set_option maxHeartbeats 16000000 in
set_option maxRecDepth 100000 in
theorem plain2_move (d s : Int) (w : World) : Calls Tryd.prog 9 #[(Nd.move d s).val] w (GivePn2 (Nd.move d s) w) := by
  have aConst := taConst
  have aMove := taMove
  dsimp only [Nd.val]
  go_enter Tryd.func9, Tryd.ntmps9
  go_wp2_with fail
  refine bodyPost_ret (results_cell_row rfl _ _ w.heap.size 30 _ (0, 0) _ (by rfl) (((Blk.new w _ _).alloc _).alloc _) Tryd.underlying30 rfl (by rfl)) rfl ?_
  exact ⟨_, _, rfl, Ints.one _ _ _ (by simp), (((Below.refl _ _).alloc (Nat.le_refl _) _).alloc (by simp) _).alloc (by simp; omega) _, .inr (fun g o s h => by injection h with h; injection h with h; omega)⟩
set_option maxHeartbeats 16000000 in
set_option maxRecDepth 100000 in
theorem plain2_bin (op d a b : Int) (w : World) : Calls Tryd.prog 9 #[(Nd.bin op d a b).val] w (GivePn2 (Nd.bin op d a b) w) := by
  have aConst := taConst
  have aMove := taMove
  have aBin := taBin
  dsimp only [Nd.val]
  go_enter Tryd.func9, Tryd.ntmps9
  go_wp2_with fail
  refine bodyPost_ret (results_cell_row rfl _ _ w.heap.size 30 _ (0, 0) _ (by rfl) (((Blk.new w _ _).alloc _).alloc _) Tryd.underlying30 rfl (by rfl)) rfl ?_
  exact ⟨_, _, rfl, Ints.two _ _ _ _ (by simp), (((Below.refl _ _).alloc (Nat.le_refl _) _).alloc (by simp) _).alloc (by simp; omega) _, .inr (fun g o s h => by injection h with h; injection h with h; omega)⟩
set_option maxHeartbeats 16000000 in
set_option maxRecDepth 100000 in
theorem plain2_un (op d a : Int) (w : World) : Calls Tryd.prog 9 #[(Nd.un op d a).val] w (GivePn2 (Nd.un op d a) w) := by
  have aConst := taConst
  have aMove := taMove
  have aBin := taBin
  have aUn := taUn
  dsimp only [Nd.val]
  go_enter Tryd.func9, Tryd.ntmps9
  go_wp2_with fail
  refine bodyPost_ret (results_cell_row rfl _ _ w.heap.size 30 _ (0, 0) _ (by rfl) (((Blk.new w _ _).alloc _).alloc _) Tryd.underlying30 rfl (by rfl)) rfl ?_
  exact ⟨_, _, rfl, Ints.one _ _ _ (by simp), (((Below.refl _ _).alloc (Nat.le_refl _) _).alloc (by simp) _).alloc (by simp; omega) _, .inr (fun g o s h => by injection h with h; injection h with h; omega)⟩
set_option maxHeartbeats 16000000 in
set_option maxRecDepth 100000 in
theorem plain2_choose (d c a b : Int) (w : World) : Calls Tryd.prog 9 #[(Nd.choose d c a b).val] w (GivePn2 (Nd.choose d c a b) w) := by
  have aConst := taConst
  have aMove := taMove
  have aBin := taBin
  have aUn := taUn
  have aChoose := taChoose
  dsimp only [Nd.val]
  go_enter Tryd.func9, Tryd.ntmps9
  go_wp2_with fail
  refine bodyPost_ret (results_cell_row rfl _ _ w.heap.size 30 _ (0, 0) _ (by rfl) (((Blk.new w _ _).alloc _).alloc _) Tryd.underlying30 rfl (by rfl)) rfl ?_
  exact ⟨_, _, rfl, Ints.three _ _ _ _ _ (by simp), (((Below.refl _ _).alloc (Nat.le_refl _) _).alloc (by simp) _).alloc (by simp; omega) _, .inr (fun g o s h => by injection h with h; injection h with h; omega)⟩
set_option maxHeartbeats 16000000 in
set_option maxRecDepth 100000 in
theorem plain2_tick (w : World) : Calls Tryd.prog 9 #[Nd.tick.val] w (GivePn2 Nd.tick w) := by
  have aConst := taConst
  have aMove := taMove
  have aBin := taBin
  have aUn := taUn
  have aChoose := taChoose
  have aTick := taTick
  dsimp only [Nd.val]
  go_enter Tryd.func9, Tryd.ntmps9
  go_wp2_with fail
  refine bodyPost_ret (results_cell_row rfl _ _ w.heap.size 30 _ (0, 0) _ (by rfl) ((Blk.new w _ _).alloc _) Tryd.underlying30 rfl (by rfl)) rfl ?_
  exact ⟨none, 0, rfl, Ints.nil _ _, ((Below.refl _ _).alloc (Nat.le_refl _) _).alloc (by simp) _, .inr (fun g o s h => by cases h)⟩
set_option maxHeartbeats 16000000 in
set_option maxRecDepth 100000 in
theorem plain2_goto (t : Int) (w : World) : Calls Tryd.prog 9 #[(Nd.goto t).val] w (GivePn2 (Nd.goto t) w) := by
  have aConst := taConst
  have aMove := taMove
  have aBin := taBin
  have aUn := taUn
  have aChoose := taChoose
  have aTick := taTick
  have aGoto := taGoto
  dsimp only [Nd.val]
  go_enter Tryd.func9, Tryd.ntmps9
  go_wp2_with fail
  refine bodyPost_ret (results_cell_row rfl _ _ w.heap.size 30 _ (0, 0) _ (by rfl) ((Blk.new w _ _).alloc _) Tryd.underlying30 rfl (by rfl)) rfl ?_
  exact ⟨none, 0, rfl, Ints.nil _ _, ((Below.refl _ _).alloc (Nat.le_refl _) _).alloc (by simp) _, .inr (fun g o s h => by cases h)⟩
set_option maxHeartbeats 16000000 in
set_option maxRecDepth 100000 in
theorem plain2_branch (c t : Int) (w : World) : Calls Tryd.prog 9 #[(Nd.branch c t).val] w (GivePn2 (Nd.branch c t) w) := by
  have aConst := taConst
  have aMove := taMove
  have aBin := taBin
  have aUn := taUn
  have aChoose := taChoose
  have aTick := taTick
  have aGoto := taGoto
  have aBranch := taBranch
  dsimp only [Nd.val]
  go_enter Tryd.func9, Tryd.ntmps9
  go_wp2_with fail
  refine bodyPost_ret (results_cell_row rfl _ _ w.heap.size 30 _ (0, 0) _ (by rfl) (((Blk.new w _ _).alloc _).alloc _) Tryd.underlying30 rfl (by rfl)) rfl ?_
  exact ⟨_, _, rfl, Ints.one _ _ _ (by simp), (((Below.refl _ _).alloc (Nat.le_refl _) _).alloc (by simp) _).alloc (by simp; omega) _, .inr (fun g o s h => by injection h with h; injection h with h; omega)⟩
set_option maxHeartbeats 16000000 in
set_option maxRecDepth 100000 in
theorem plain2_getf (d f : Int) (w : World) : Calls Tryd.prog 9 #[(Nd.getf d f).val] w (GivePn2 (Nd.getf d f) w) := by
  have aConst := taConst
  have aMove := taMove
  have aBin := taBin
  have aUn := taUn
  have aChoose := taChoose
  have aTick := taTick
  have aGoto := taGoto
  have aBranch := taBranch
  have aGetField := taGetField
  dsimp only [Nd.val]
  go_enter Tryd.func9, Tryd.ntmps9
  go_wp2_with fail
  refine bodyPost_ret (results_cell_row rfl _ _ w.heap.size 30 _ (0, 0) _ (by rfl) ((Blk.new w _ _).alloc _) Tryd.underlying30 rfl (by rfl)) rfl ?_
  exact ⟨none, 0, rfl, Ints.nil _ _, ((Below.refl _ _).alloc (Nat.le_refl _) _).alloc (by simp) _, .inr (fun g o s h => by cases h)⟩
set_option maxHeartbeats 16000000 in
set_option maxRecDepth 100000 in
theorem plain2_putf (f s : Int) (w : World) : Calls Tryd.prog 9 #[(Nd.putf f s).val] w (GivePn2 (Nd.putf f s) w) := by
  have aConst := taConst
  have aMove := taMove
  have aBin := taBin
  have aUn := taUn
  have aChoose := taChoose
  have aTick := taTick
  have aGoto := taGoto
  have aBranch := taBranch
  have aGetField := taGetField
  have aPutField := taPutField
  dsimp only [Nd.val]
  go_enter Tryd.func9, Tryd.ntmps9
  go_wp2_with fail
  refine bodyPost_ret (results_cell_row rfl _ _ w.heap.size 30 _ (0, 0) _ (by rfl) (((Blk.new w _ _).alloc _).alloc _) Tryd.underlying30 rfl (by rfl)) rfl ?_
  exact ⟨_, _, rfl, Ints.one _ _ _ (by simp), (((Below.refl _ _).alloc (Nat.le_refl _) _).alloc (by simp) _).alloc (by simp; omega) _, .inr (fun g o s h => by injection h with h; injection h with h; omega)⟩
set_option maxHeartbeats 16000000 in
set_option maxRecDepth 100000 in
theorem plain2_serve (op a b d : Int) (A : Option Addr) (c : Nat) (xs : List Int) (w : World) (hok : (Nd.serve op a b d A c xs).ok w) : Calls Tryd.prog 9 #[(Nd.serve op a b d A c xs).val] w (GivePn2 (Nd.serve op a b d A c xs) w) := by
  have aConst := taConst
  have aMove := taMove
  have aBin := taBin
  have aUn := taUn
  have aChoose := taChoose
  have aTick := taTick
  have aGoto := taGoto
  have aBranch := taBranch
  have aGetField := taGetField
  have aPutField := taPutField
  have aServe := taServe
  have HI := Lib.hid hok.1
  clear hok
  dsimp only [Nd.val]
  go_enter Tryd.func9, Tryd.ntmps9
  go_wp2_with fail
  refine bodyPost_ret (results_cell_row rfl _ _ w.heap.size 30 _ (0, 0) _ (by rfl) ((Blk.new w _ _).alloc _) Tryd.underlying30 rfl (by rfl)) rfl ?_
  exact ⟨A, c, rfl, HI.out.keep (((Below.refl _ _).alloc (Nat.le_refl _) _).alloc (by simp) _), ((Below.refl _ _).alloc (Nat.le_refl _) _).alloc (by simp) _, .inl rfl⟩
set_option maxHeartbeats 16000000 in
set_option maxRecDepth 100000 in
theorem plain2_call (m d : Int) (A : Option Addr) (c : Nat) (xs : List Int) (w : World) (hok : (Nd.call m d A c xs).ok w) : Calls Tryd.prog 9 #[(Nd.call m d A c xs).val] w (GivePn2 (Nd.call m d A c xs) w) := by
  have aConst := taConst
  have aMove := taMove
  have aBin := taBin
  have aUn := taUn
  have aChoose := taChoose
  have aTick := taTick
  have aGoto := taGoto
  have aBranch := taBranch
  have aGetField := taGetField
  have aPutField := taPutField
  have aServe := taServe
  have aCall := taCall
  have HI := Lib.hid hok.1
  clear hok
  dsimp only [Nd.val]
  go_enter Tryd.func9, Tryd.ntmps9
  go_wp2_with fail
  refine bodyPost_ret (results_cell_row rfl _ _ w.heap.size 30 _ (0, 0) _ (by rfl) ((Blk.new w _ _).alloc _) Tryd.underlying30 rfl (by rfl)) rfl ?_
  exact ⟨A, c, rfl, HI.out.keep (((Below.refl _ _).alloc (Nat.le_refl _) _).alloc (by simp) _), ((Below.refl _ _).alloc (Nat.le_refl _) _).alloc (by simp) _, .inl rfl⟩
set_option maxHeartbeats 16000000 in
set_option maxRecDepth 100000 in
theorem plain2_callx (m d : Int) (A : Option Addr) (c : Nat) (xs : List Int) (w : World) (hok : (Nd.callx m d A c xs).ok w) : Calls Tryd.prog 9 #[(Nd.callx m d A c xs).val] w (GivePn2 (Nd.callx m d A c xs) w) := by
  have aConst := taConst
  have aMove := taMove
  have aBin := taBin
  have aUn := taUn
  have aChoose := taChoose
  have aTick := taTick
  have aGoto := taGoto
  have aBranch := taBranch
  have aGetField := taGetField
  have aPutField := taPutField
  have aServe := taServe
  have aCall := taCall
  have aCallX := taCallX
  have HI := Lib.hid hok.1
  clear hok
  dsimp only [Nd.val]
  go_enter Tryd.func9, Tryd.ntmps9
  go_wp2_with fail
  refine bodyPost_ret (results_cell_row rfl _ _ w.heap.size 30 _ (0, 0) _ (by rfl) ((Blk.new w _ _).alloc _) Tryd.underlying30 rfl (by rfl)) rfl ?_
  exact ⟨A, c, rfl, HI.out.keep (((Below.refl _ _).alloc (Nat.le_refl _) _).alloc (by simp) _), ((Below.refl _ _).alloc (Nat.le_refl _) _).alloc (by simp) _, .inl rfl⟩
set_option maxHeartbeats 16000000 in
set_option maxRecDepth 100000 in
theorem plain2_ret (s : Int) (w : World) : Calls Tryd.prog 9 #[(Nd.ret s).val] w (GivePn2 (Nd.ret s) w) := by
  have aConst := taConst
  have aMove := taMove
  have aBin := taBin
  have aUn := taUn
  have aChoose := taChoose
  have aTick := taTick
  have aGoto := taGoto
  have aBranch := taBranch
  have aGetField := taGetField
  have aPutField := taPutField
  have aServe := taServe
  have aCall := taCall
  have aCallX := taCallX
  have aRet := taRet
  dsimp only [Nd.val]
  by_cases hs : s = -1
  · subst hs
    go_enter Tryd.func9, Tryd.ntmps9
    go_wp2_with fail
    refine bodyPost_ret (results_cell_row rfl _ _ w.heap.size 30 _ (0, 0) _ (by rfl) ((Blk.new w _ _).alloc _) Tryd.underlying30 rfl (by rfl)) rfl ?_
    exact ⟨none, 0, rfl, Ints.nil _ _, ((Below.refl _ _).alloc (Nat.le_refl _) _).alloc (by simp) _, .inr (fun g o s h => by cases h)⟩
  · have hs' : (s == -1) = false := by simp [hs]
    have hp : (Nd.ret s).pn = ⟨14, -1, 0, 0, 0, 0, 0, [s]⟩ := by unfold Nd.pn; dsimp only; rw [if_neg hs]
    unfold GivePn2
    rw [hp]
    go_enter Tryd.func9, Tryd.ntmps9
    go_wp2_with fail
    refine bodyPost_ret (results_cell_row rfl _ _ w.heap.size 30 _ (0, 0) _ (by rfl) (((Blk.new w _ _).alloc _).alloc _) Tryd.underlying30 rfl (by rfl)) rfl ?_
    exact ⟨_, _, rfl, Ints.one _ _ _ (by simp), (((Below.refl _ _).alloc (Nat.le_refl _) _).alloc (by simp) _).alloc (by simp; omega) _, .inr (fun g o s h => by injection h with h; injection h with h; omega)⟩
set_option maxHeartbeats 16000000 in
set_option maxRecDepth 100000 in
theorem plain2_none (w : World) : Calls Tryd.prog 9 #[Nd.none.val] w (GivePn2 Nd.none w) := by
  have nConst := tnConst
  have nMove := tnMove
  have nBin := tnBin
  have nUn := tnUn
  have nChoose := tnChoose
  have nTick := tnTick
  have nGoto := tnGoto
  have nBranch := tnBranch
  have nGetField := tnGetField
  have nPutField := tnPutField
  have nServe := tnServe
  have nCall := tnCall
  have nCallX := tnCallX
  have nRet := tnRet
  dsimp only [Nd.val]
  go_enter Tryd.func9, Tryd.ntmps9
  go_wp2_with fail
  refine bodyPost_ret (results_cell_row rfl _ _ w.heap.size 30 _ (0, 0) _ (by rfl) (Blk.new w _ _) Tryd.underlying30 rfl (by rfl)) rfl ?_
  exact ⟨none, 0, rfl, Ints.nil _ _, (Below.refl _ _).alloc (Nat.le_refl _) _, .inr (fun g o s h => by cases h)⟩
theorem plain2_c (n : Nd) (w : World) (hok : n.ok w) : Calls Tryd.prog 9 #[n.val] w (GivePn2 n w) := by
  cases n with
  | none => exact plain2_none w
  | const d n => exact plain2_const d n w hok
  | move d s => exact plain2_move d s w
  | bin op d a b => exact plain2_bin op d a b w
  | un op d a => exact plain2_un op d a w
  | choose d c a b => exact plain2_choose d c a b w
  | tick  => exact plain2_tick  w
  | goto t => exact plain2_goto t w
  | branch c t => exact plain2_branch c t w
  | getf d f => exact plain2_getf d f w
  | putf f s => exact plain2_putf f s w
  | serve op a b d A c xs => exact plain2_serve op a b d A c xs w hok
  | call m d A c xs => exact plain2_call m d A c xs w hok
  | callx m d A c xs => exact plain2_callx m d A c xs w hok
  | ret s => exact plain2_ret s w
end Go.Proofs.YtilifniflpbbkaaDoor
