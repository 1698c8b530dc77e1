/- The reference's nodes: PlainNode, uses, writes, Def, Next, Pure. -/
import Derived.Test.YtilifniflpbbkaaDoorIrK
namespace Go.Proofs.YtilifniflpbbkaaDoor
open Go.RowKit On
/-- a plain node -/
structure Pn where
  (kind dst op n a b tgt : Int)
  (args : List Int)
def Pn.val (p : Pn) (A : Option Addr) (c : Nat) : Value := .agg #[.int .i64 p.kind, .int .i64 p.dst, .int .i64 p.op, .int .i64 p.n, .int .i64 p.a, .int .i64 p.b, .int .i64 p.tgt, .slice A p.args.length c]
def Nd.pn : Nd → Pn
  | none => ⟨0, 0, 0, 0, 0, 0, 0, []⟩
  | const d n => ⟨1, d, 0, n, 0, 0, 0, []⟩
  | move d s => ⟨2, d, 0, 0, 0, 0, 0, [s]⟩
  | bin op d a b => ⟨3, d, op, 0, 0, 0, 0, [a, b]⟩
  | un op d a => ⟨4, d, op, 0, 0, 0, 0, [a]⟩
  | choose d c a b => ⟨5, d, 0, 0, 0, 0, 0, [c, a, b]⟩
  | tick => ⟨6, -1, 0, 0, 0, 0, 0, []⟩
  | goto t => ⟨7, -1, 0, 0, 0, 0, t, []⟩
  | branch c t => ⟨8, -1, 0, 0, 0, 0, t, [c]⟩
  | getf d f => ⟨9, d, 0, f, 0, 0, 0, []⟩
  | putf f s => ⟨10, -1, 0, f, 0, 0, 0, [s]⟩
  | serve op a b d _ _ xs => ⟨11, d, op, 0, a, b, 0, xs⟩
  | call m d _ _ xs => ⟨12, d, 0, m, 0, 0, 0, xs⟩
  | callx m d _ _ xs => ⟨13, d, 0, m, 0, 0, 0, xs⟩
  | ret s => ⟨14, -1, 0, 0, 0, 0, 0, if s = -1 then [] else [s]⟩
theorem Nd.pn_args (n : Nd) : n.pn.args = n.uses := by cases n <;> rfl
/-- a plain node is handed back -/
def GivePn (p : Pn) (w : World) (e : Ending) (w' : World) : Prop := ∃ A c, e = .returned (p.val A c) ∧ Ints .i64 w' (.slice A p.args.length c) p.args ∧ Below w.heap.size w w'
theorem Blk.sets8 {w : World} {b p : Nat} {t : TypeId} {cs : Array Value} (h : Blk w b t cs) (hp : b ≠ p) (v0 v1 v2 v3 v4 v5 v6 v7 : Value) :
    Blk ((((((((w.setCell ⟨p, 0, none⟩ v0).setCell ⟨p, 1, none⟩ v1).setCell ⟨p, 2, none⟩ v2).setCell ⟨p, 3, none⟩ v3).setCell ⟨p, 4, none⟩ v4).setCell ⟨p, 5, none⟩ v5).setCell ⟨p, 6, none⟩ v6).setCell ⟨p, 7, none⟩ v7) b t cs :=
  (((((((h.far (p := ⟨p, 0, none⟩) hp v0).far (p := ⟨p, 1, none⟩) hp v1).far (p := ⟨p, 2, none⟩) hp v2).far (p := ⟨p, 3, none⟩) hp v3).far (p := ⟨p, 4, none⟩) hp v4).far (p := ⟨p, 5, none⟩) hp v5).far (p := ⟨p, 6, none⟩) hp v6).far (p := ⟨p, 7, none⟩) hp v7
theorem Below.sets8 {B : Nat} {a w : World} {p : Nat} (h : Below B a w) (hp : B ≤ p) (v0 v1 v2 v3 v4 v5 v6 v7 : Value) :
    Below B a ((((((((w.setCell ⟨p, 0, none⟩ v0).setCell ⟨p, 1, none⟩ v1).setCell ⟨p, 2, none⟩ v2).setCell ⟨p, 3, none⟩ v3).setCell ⟨p, 4, none⟩ v4).setCell ⟨p, 5, none⟩ v5).setCell ⟨p, 6, none⟩ v6).setCell ⟨p, 7, none⟩ v7) :=
  (((((((h.setCell (p := ⟨p, 0, none⟩) hp v0).setCell (p := ⟨p, 1, none⟩) hp v1).setCell (p := ⟨p, 2, none⟩) hp v2).setCell (p := ⟨p, 3, none⟩) hp v3).setCell (p := ⟨p, 4, none⟩) hp v4).setCell (p := ⟨p, 5, none⟩) hp v5).setCell (p := ⟨p, 6, none⟩) hp v6).setCell (p := ⟨p, 7, none⟩) hp v7
/- PRINTED -/
set_option maxHeartbeats 16000000 in
set_option maxRecDepth 100000 in
theorem plain_const (d n : Int) (w : World) (hok : (Nd.const d n).ok w) : Calls Tryd.prog 9 #[(Nd.const d n).val] w (GivePn (Nd.const d n).pn w) := by
  have aConst := taConst
  obtain ⟨hn1, hn2⟩ := hok
  dsimp only [Nd.val]
  go_enter Tryd.func9, Tryd.ntmps9
  go_wp2_with fail
  refine bodyPost_ret (results_cell_row rfl _ _ w.heap.size 30 _ (0, 0) _ (by rfl) ((Blk.new w _ _).alloc _) Tryd.underlying30 rfl (by rfl)) rfl ?_
  exact ⟨none, 0, rfl, Ints.nil _ _, ((Below.refl _ _).alloc (Nat.le_refl _) _).alloc (by simp) _⟩
set_option maxHeartbeats 16000000 in
set_option maxRecDepth 100000 in
theorem plain_move (d s : Int) (w : World) : Calls Tryd.prog 9 #[(Nd.move d s).val] w (GivePn (Nd.move d s).pn w) := by
  have aConst := taConst
  have aMove := taMove
  dsimp only [Nd.val]
  go_enter Tryd.func9, Tryd.ntmps9
  go_wp2_with fail
  refine bodyPost_ret (results_cell_row rfl _ _ w.heap.size 30 _ (0, 0) _ (by rfl) (((Blk.new w _ _).alloc _).alloc _) Tryd.underlying30 rfl (by rfl)) rfl ?_
  exact ⟨_, _, rfl, Ints.one _ _ _ (by simp), (((Below.refl _ _).alloc (Nat.le_refl _) _).alloc (by simp) _).alloc (by simp; omega) _⟩
set_option maxHeartbeats 16000000 in
set_option maxRecDepth 100000 in
theorem plain_bin (op d a b : Int) (w : World) : Calls Tryd.prog 9 #[(Nd.bin op d a b).val] w (GivePn (Nd.bin op d a b).pn w) := by
  have aConst := taConst
  have aMove := taMove
  have aBin := taBin
  dsimp only [Nd.val]
  go_enter Tryd.func9, Tryd.ntmps9
  go_wp2_with fail
  refine bodyPost_ret (results_cell_row rfl _ _ w.heap.size 30 _ (0, 0) _ (by rfl) (((Blk.new w _ _).alloc _).alloc _) Tryd.underlying30 rfl (by rfl)) rfl ?_
  exact ⟨_, _, rfl, Ints.two _ _ _ _ (by simp), (((Below.refl _ _).alloc (Nat.le_refl _) _).alloc (by simp) _).alloc (by simp; omega) _⟩
set_option maxHeartbeats 16000000 in
set_option maxRecDepth 100000 in
theorem plain_un (op d a : Int) (w : World) : Calls Tryd.prog 9 #[(Nd.un op d a).val] w (GivePn (Nd.un op d a).pn w) := by
  have aConst := taConst
  have aMove := taMove
  have aBin := taBin
  have aUn := taUn
  dsimp only [Nd.val]
  go_enter Tryd.func9, Tryd.ntmps9
  go_wp2_with fail
  refine bodyPost_ret (results_cell_row rfl _ _ w.heap.size 30 _ (0, 0) _ (by rfl) (((Blk.new w _ _).alloc _).alloc _) Tryd.underlying30 rfl (by rfl)) rfl ?_
  exact ⟨_, _, rfl, Ints.one _ _ _ (by simp), (((Below.refl _ _).alloc (Nat.le_refl _) _).alloc (by simp) _).alloc (by simp; omega) _⟩
set_option maxHeartbeats 16000000 in
set_option maxRecDepth 100000 in
theorem plain_choose (d c a b : Int) (w : World) : Calls Tryd.prog 9 #[(Nd.choose d c a b).val] w (GivePn (Nd.choose d c a b).pn w) := by
  have aConst := taConst
  have aMove := taMove
  have aBin := taBin
  have aUn := taUn
  have aChoose := taChoose
  dsimp only [Nd.val]
  go_enter Tryd.func9, Tryd.ntmps9
  go_wp2_with fail
  refine bodyPost_ret (results_cell_row rfl _ _ w.heap.size 30 _ (0, 0) _ (by rfl) (((Blk.new w _ _).alloc _).alloc _) Tryd.underlying30 rfl (by rfl)) rfl ?_
  exact ⟨_, _, rfl, Ints.three _ _ _ _ _ (by simp), (((Below.refl _ _).alloc (Nat.le_refl _) _).alloc (by simp) _).alloc (by simp; omega) _⟩
set_option maxHeartbeats 16000000 in
set_option maxRecDepth 100000 in
theorem plain_tick (w : World) : Calls Tryd.prog 9 #[Nd.tick.val] w (GivePn Nd.tick.pn w) := by
  have aConst := taConst
  have aMove := taMove
  have aBin := taBin
  have aUn := taUn
  have aChoose := taChoose
  have aTick := taTick
  dsimp only [Nd.val]
  go_enter Tryd.func9, Tryd.ntmps9
  go_wp2_with fail
  refine bodyPost_ret (results_cell_row rfl _ _ w.heap.size 30 _ (0, 0) _ (by rfl) ((Blk.new w _ _).alloc _) Tryd.underlying30 rfl (by rfl)) rfl ?_
  exact ⟨none, 0, rfl, Ints.nil _ _, ((Below.refl _ _).alloc (Nat.le_refl _) _).alloc (by simp) _⟩
set_option maxHeartbeats 16000000 in
set_option maxRecDepth 100000 in
theorem plain_goto (t : Int) (w : World) : Calls Tryd.prog 9 #[(Nd.goto t).val] w (GivePn (Nd.goto t).pn w) := by
  have aConst := taConst
  have aMove := taMove
  have aBin := taBin
  have aUn := taUn
  have aChoose := taChoose
  have aTick := taTick
  have aGoto := taGoto
  dsimp only [Nd.val]
  go_enter Tryd.func9, Tryd.ntmps9
  go_wp2_with fail
  refine bodyPost_ret (results_cell_row rfl _ _ w.heap.size 30 _ (0, 0) _ (by rfl) ((Blk.new w _ _).alloc _) Tryd.underlying30 rfl (by rfl)) rfl ?_
  exact ⟨none, 0, rfl, Ints.nil _ _, ((Below.refl _ _).alloc (Nat.le_refl _) _).alloc (by simp) _⟩
set_option maxHeartbeats 16000000 in
set_option maxRecDepth 100000 in
theorem plain_branch (c t : Int) (w : World) : Calls Tryd.prog 9 #[(Nd.branch c t).val] w (GivePn (Nd.branch c t).pn w) := by
  have aConst := taConst
  have aMove := taMove
  have aBin := taBin
  have aUn := taUn
  have aChoose := taChoose
  have aTick := taTick
  have aGoto := taGoto
  have aBranch := taBranch
  dsimp only [Nd.val]
  go_enter Tryd.func9, Tryd.ntmps9
  go_wp2_with fail
  refine bodyPost_ret (results_cell_row rfl _ _ w.heap.size 30 _ (0, 0) _ (by rfl) (((Blk.new w _ _).alloc _).alloc _) Tryd.underlying30 rfl (by rfl)) rfl ?_
  exact ⟨_, _, rfl, Ints.one _ _ _ (by simp), (((Below.refl _ _).alloc (Nat.le_refl _) _).alloc (by simp) _).alloc (by simp; omega) _⟩
set_option maxHeartbeats 16000000 in
set_option maxRecDepth 100000 in
theorem plain_getf (d f : Int) (w : World) : Calls Tryd.prog 9 #[(Nd.getf d f).val] w (GivePn (Nd.getf d f).pn w) := by
  have aConst := taConst
  have aMove := taMove
  have aBin := taBin
  have aUn := taUn
  have aChoose := taChoose
  have aTick := taTick
  have aGoto := taGoto
  have aBranch := taBranch
  have aGetField := taGetField
  dsimp only [Nd.val]
  go_enter Tryd.func9, Tryd.ntmps9
  go_wp2_with fail
  refine bodyPost_ret (results_cell_row rfl _ _ w.heap.size 30 _ (0, 0) _ (by rfl) ((Blk.new w _ _).alloc _) Tryd.underlying30 rfl (by rfl)) rfl ?_
  exact ⟨none, 0, rfl, Ints.nil _ _, ((Below.refl _ _).alloc (Nat.le_refl _) _).alloc (by simp) _⟩
set_option maxHeartbeats 16000000 in
set_option maxRecDepth 100000 in
theorem plain_putf (f s : Int) (w : World) : Calls Tryd.prog 9 #[(Nd.putf f s).val] w (GivePn (Nd.putf f s).pn w) := by
  have aConst := taConst
  have aMove := taMove
  have aBin := taBin
  have aUn := taUn
  have aChoose := taChoose
  have aTick := taTick
  have aGoto := taGoto
  have aBranch := taBranch
  have aGetField := taGetField
  have aPutField := taPutField
  dsimp only [Nd.val]
  go_enter Tryd.func9, Tryd.ntmps9
  go_wp2_with fail
  refine bodyPost_ret (results_cell_row rfl _ _ w.heap.size 30 _ (0, 0) _ (by rfl) (((Blk.new w _ _).alloc _).alloc _) Tryd.underlying30 rfl (by rfl)) rfl ?_
  exact ⟨_, _, rfl, Ints.one _ _ _ (by simp), (((Below.refl _ _).alloc (Nat.le_refl _) _).alloc (by simp) _).alloc (by simp; omega) _⟩
set_option maxHeartbeats 16000000 in
set_option maxRecDepth 100000 in
theorem plain_serve (op a b d : Int) (A : Option Addr) (c : Nat) (xs : List Int) (w : World) (hok : (Nd.serve op a b d A c xs).ok w) : Calls Tryd.prog 9 #[(Nd.serve op a b d A c xs).val] w (GivePn (Nd.serve op a b d A c xs).pn w) := by
  have aConst := taConst
  have aMove := taMove
  have aBin := taBin
  have aUn := taUn
  have aChoose := taChoose
  have aTick := taTick
  have aGoto := taGoto
  have aBranch := taBranch
  have aGetField := taGetField
  have aPutField := taPutField
  have aServe := taServe
  have HI := Lib.hid hok.1
  clear hok
  dsimp only [Nd.val]
  go_enter Tryd.func9, Tryd.ntmps9
  go_wp2_with fail
  refine bodyPost_ret (results_cell_row rfl _ _ w.heap.size 30 _ (0, 0) _ (by rfl) ((Blk.new w _ _).alloc _) Tryd.underlying30 rfl (by rfl)) rfl ?_
  exact ⟨A, c, rfl, HI.out.keep (((Below.refl _ _).alloc (Nat.le_refl _) _).alloc (by simp) _), ((Below.refl _ _).alloc (Nat.le_refl _) _).alloc (by simp) _⟩
set_option maxHeartbeats 16000000 in
set_option maxRecDepth 100000 in
theorem plain_call (m d : Int) (A : Option Addr) (c : Nat) (xs : List Int) (w : World) (hok : (Nd.call m d A c xs).ok w) : Calls Tryd.prog 9 #[(Nd.call m d A c xs).val] w (GivePn (Nd.call m d A c xs).pn w) := by
  have aConst := taConst
  have aMove := taMove
  have aBin := taBin
  have aUn := taUn
  have aChoose := taChoose
  have aTick := taTick
  have aGoto := taGoto
  have aBranch := taBranch
  have aGetField := taGetField
  have aPutField := taPutField
  have aServe := taServe
  have aCall := taCall
  have HI := Lib.hid hok.1
  clear hok
  dsimp only [Nd.val]
  go_enter Tryd.func9, Tryd.ntmps9
  go_wp2_with fail
  refine bodyPost_ret (results_cell_row rfl _ _ w.heap.size 30 _ (0, 0) _ (by rfl) ((Blk.new w _ _).alloc _) Tryd.underlying30 rfl (by rfl)) rfl ?_
  exact ⟨A, c, rfl, HI.out.keep (((Below.refl _ _).alloc (Nat.le_refl _) _).alloc (by simp) _), ((Below.refl _ _).alloc (Nat.le_refl _) _).alloc (by simp) _⟩
set_option maxHeartbeats 16000000 in
set_option maxRecDepth 100000 in
theorem plain_callx (m d : Int) (A : Option Addr) (c : Nat) (xs : List Int) (w : World) (hok : (Nd.callx m d A c xs).ok w) : Calls Tryd.prog 9 #[(Nd.callx m d A c xs).val] w (GivePn (Nd.callx m d A c xs).pn w) := by
  have aConst := taConst
  have aMove := taMove
  have aBin := taBin
  have aUn := taUn
  have aChoose := taChoose
  have aTick := taTick
  have aGoto := taGoto
  have aBranch := taBranch
  have aGetField := taGetField
  have aPutField := taPutField
  have aServe := taServe
  have aCall := taCall
  have aCallX := taCallX
  have HI := Lib.hid hok.1
  clear hok
  dsimp only [Nd.val]
  go_enter Tryd.func9, Tryd.ntmps9
  go_wp2_with fail
  refine bodyPost_ret (results_cell_row rfl _ _ w.heap.size 30 _ (0, 0) _ (by rfl) ((Blk.new w _ _).alloc _) Tryd.underlying30 rfl (by rfl)) rfl ?_
  exact ⟨A, c, rfl, HI.out.keep (((Below.refl _ _).alloc (Nat.le_refl _) _).alloc (by simp) _), ((Below.refl _ _).alloc (Nat.le_refl _) _).alloc (by simp) _⟩
set_option maxHeartbeats 16000000 in
set_option maxRecDepth 100000 in
theorem plain_ret (s : Int) (w : World) : Calls Tryd.prog 9 #[(Nd.ret s).val] w (GivePn (Nd.ret s).pn w) := by
  have aConst := taConst
  have aMove := taMove
  have aBin := taBin
  have aUn := taUn
  have aChoose := taChoose
  have aTick := taTick
  have aGoto := taGoto
  have aBranch := taBranch
  have aGetField := taGetField
  have aPutField := taPutField
  have aServe := taServe
  have aCall := taCall
  have aCallX := taCallX
  have aRet := taRet
  dsimp only [Nd.val]
  by_cases hs : s = -1
  · subst hs
    go_enter Tryd.func9, Tryd.ntmps9
    go_wp2_with fail
    refine bodyPost_ret (results_cell_row rfl _ _ w.heap.size 30 _ (0, 0) _ (by rfl) ((Blk.new w _ _).alloc _) Tryd.underlying30 rfl (by rfl)) rfl ?_
    exact ⟨none, 0, rfl, Ints.nil _ _, ((Below.refl _ _).alloc (Nat.le_refl _) _).alloc (by simp) _⟩
  · have hs' : (s == -1) = false := by simp [hs]
    have hp : (Nd.ret s).pn = ⟨14, -1, 0, 0, 0, 0, 0, [s]⟩ := by unfold Nd.pn; dsimp only; rw [if_neg hs]
    rw [hp]
    go_enter Tryd.func9, Tryd.ntmps9
    go_wp2_with fail
    refine bodyPost_ret (results_cell_row rfl _ _ w.heap.size 30 _ (0, 0) _ (by rfl) (((Blk.new w _ _).alloc _).alloc _) Tryd.underlying30 rfl (by rfl)) rfl ?_
    exact ⟨_, _, rfl, Ints.one _ _ _ (by simp), (((Below.refl _ _).alloc (Nat.le_refl _) _).alloc (by simp) _).alloc (by simp; omega) _⟩
set_option maxHeartbeats 16000000 in
set_option maxRecDepth 100000 in
theorem plain_none (w : World) : Calls Tryd.prog 9 #[Nd.none.val] w (GivePn Nd.none.pn w) := by
  have nConst := tnConst
  have nMove := tnMove
  have nBin := tnBin
  have nUn := tnUn
  have nChoose := tnChoose
  have nTick := tnTick
  have nGoto := tnGoto
  have nBranch := tnBranch
  have nGetField := tnGetField
  have nPutField := tnPutField
  have nServe := tnServe
  have nCall := tnCall
  have nCallX := tnCallX
  have nRet := tnRet
  dsimp only [Nd.val]
  go_enter Tryd.func9, Tryd.ntmps9
  go_wp2_with fail
  refine bodyPost_ret (results_cell_row rfl _ _ w.heap.size 30 _ (0, 0) _ (by rfl) (Blk.new w _ _) Tryd.underlying30 rfl (by rfl)) rfl ?_
  exact ⟨none, 0, rfl, Ints.nil _ _, (Below.refl _ _).alloc (Nat.le_refl _) _⟩
theorem plain_c (n : Nd) (w : World) (hok : n.ok w) : Calls Tryd.prog 9 #[n.val] w (GivePn n.pn w) := by
  cases n with
  | none => exact plain_none w
  | const d n => exact plain_const d n w hok
  | move d s => exact plain_move d s w
  | bin op d a b => exact plain_bin op d a b w
  | un op d a => exact plain_un op d a w
  | choose d c a b => exact plain_choose d c a b w
  | tick  => exact plain_tick  w
  | goto t => exact plain_goto t w
  | branch c t => exact plain_branch c t w
  | getf d f => exact plain_getf d f w
  | putf f s => exact plain_putf f s w
  | serve op a b d A c xs => exact plain_serve op a b d A c xs w hok
  | call m d A c xs => exact plain_call m d A c xs w hok
  | callx m d A c xs => exact plain_callx m d A c xs w hok
  | ret s => exact plain_ret s w
def Nd.writes : Nd → Int
  | const _ _ | move _ _ | bin _ _ _ _ | un _ _ _ | choose _ _ _ _ | getf _ _ => 1
  | serve _ _ _ _ _ _ _ | call _ _ _ _ _ | callx _ _ _ _ _ => 0
  | _ => -1
set_option maxHeartbeats 8000000 in
theorem refWrites_c (n : Nd) (A : Option Addr) (c : Nat) (w : World) : Calls Tryd.prog 29 #[n.pn.val A c] w fun e w' => e = .returned (.int .i64 n.writes) ∧ Below w.heap.size w w' := by
  unfold Pn.val
  generalize n.pn.args.length = L
  have hb : Below w.heap.size w w := Below.refl _ _
  cases n <;> dsimp only [Nd.pn, Nd.writes]
  all_goals
    go_enter Tryd.func29, Tryd.ntmps29
    go_wp2_with fail
    go_ret
    exact ⟨rfl, hb.alloc (Nat.le_refl _) _⟩
set_option maxHeartbeats 8000000 in
theorem refPure_c (n : Nd) (A : Option Addr) (c : Nat) (w : World) : Calls Tryd.prog 19 #[n.pn.val A c] w fun e w' => e = .returned (.bool n.pure) ∧ Below w.heap.size w w' := by
  unfold Pn.val
  generalize n.pn.args.length = L
  have hb : Below w.heap.size w w := Below.refl _ _
  cases n <;> dsimp only [Nd.pn, Nd.pure]
  all_goals
    go_enter Tryd.func19, Tryd.ntmps19
    go_wp2_with fail
    go_ret
    exact ⟨rfl, hb.alloc (Nat.le_refl _) _⟩
theorem Nd.dst_of (n : Nd) : (if n.writes < 0 then -1 else n.pn.dst) = n.dst := by cases n <;> rfl
set_option maxHeartbeats 8000000 in
theorem refDef_c (n : Nd) (A : Option Addr) (c : Nat) (w : World) : Calls Tryd.prog 15 #[n.pn.val A c] w fun e w' => e = .returned (.int .i64 n.dst) ∧ Below w.heap.size w w' := by
  have HW := Lib.hid (fun w => refWrites_c n A c w)
  rw [← Nd.dst_of n]
  have hw : n.writes = 1 ∨ n.writes = 0 ∨ n.writes = -1 := by cases n <;> simp [Nd.writes]
  unfold Pn.val at HW ⊢
  have KP := Blk.new w 30 #[.int .i64 n.pn.kind, .int .i64 n.pn.dst, .int .i64 n.pn.op, .int .i64 n.pn.n, .int .i64 n.pn.a, .int .i64 n.pn.b, .int .i64 n.pn.tgt, .slice A n.pn.args.length c]
  have HB0 : Hid (Below w.heap.size w (w.alloc (.cells #[.int .i64 n.pn.kind, .int .i64 n.pn.dst, .int .i64 n.pn.op, .int .i64 n.pn.n, .int .i64 n.pn.a, .int .i64 n.pn.b, .int .i64 n.pn.tgt, .slice A n.pn.args.length c] 30))) := (Below.refl _ _).alloc (Nat.le_refl _) _
  generalize n.pn.args.length = L at *
  generalize n.pn.kind = k0 at *
  generalize n.pn.dst = k1 at *
  generalize n.pn.op = k2 at *
  generalize n.pn.n = k3 at *
  generalize n.pn.a = k4 at *
  generalize n.pn.b = k5 at *
  generalize n.pn.tgt = k6 at *
  generalize n.writes = wr at *
  have KH := Lib.hid KP
  clear KP
  go_enter Tryd.func15, Tryd.ntmps15
  go_wp2_with fail
  refine (HW.out _).mono ?_
  rintro e w2 ⟨rfl, hb⟩
  have HB2 := Lib.hid (HB0.out.trans (hb.mono HB0.out.size))
  have k2' := KH.out.only (S := fun _ => False) (Only.of_below hb) id
  have p1 := k2'.cell 1
  simp at p1
  clear hb k2' KH HB0 HW
  rcases hw with rfl | rfl | rfl
  · go_wp2_with fail
    go_ret
    exact ⟨rfl, HB2.out⟩
  · go_wp2_with fail
    go_ret
    exact ⟨rfl, HB2.out⟩
  · go_wp2_with fail
    go_ret
    exact ⟨rfl, HB2.out⟩
set_option maxHeartbeats 8000000 in
theorem refNext_c (n : Nd) (at_ : Int) (h0 : 0 ≤ at_) (h1 : at_ < 100000) (A : Option Addr) (c : Nat) (w : World) : Calls Tryd.prog 17 #[n.pn.val A c, .int .i64 at_] w (GiveInts (n.next at_) w) := by
  unfold Pn.val
  generalize n.pn.args.length = L
  have hb : Below w.heap.size w w := Below.refl _ _
  cases n
  case branch cc t =>
    dsimp only [Nd.pn, Nd.next]
    by_cases h : t = at_ + 1
    · rw [if_pos h]
      have hne : (t == at_ + 1) = true := by simp [h]
      go_enter Tryd.func17, Tryd.ntmps17
      go_wp2_with fail
      go_ret
      exact ⟨_, rfl, Ints.one _ _ _ (by simp), (hb.alloc (Nat.le_refl _) _).alloc (by simp) _⟩
    · rw [if_neg h]
      have hne : (t == at_ + 1) = false := by simp [h]
      go_enter Tryd.func17, Tryd.ntmps17
      go_wp2_with fail
      go_ret
      exact ⟨_, rfl, Ints.two _ _ _ _ (by simp), (hb.alloc (Nat.le_refl _) _).alloc (by simp) _⟩
  all_goals
    dsimp only [Nd.pn, Nd.next]
    go_enter Tryd.func17, Tryd.ntmps17
    go_wp2_with fail
    go_ret
    first | exact ⟨_, rfl, Ints.nil _ _, hb.alloc (Nat.le_refl _) _⟩ | exact ⟨_, rfl, Ints.one _ _ _ (by simp), (hb.alloc (Nat.le_refl _) _).alloc (by simp) _⟩
end Go.Proofs.YtilifniflpbbkaaDoor
