/- MERGED by mergev.py: XOnly XPick XTh XTh2 XTh3. -/
import Derived.WalkKit
import Derived.Deep.Draws
import Derived.WalkSmall
import Derived.Lib.Hide
import Derived.Maps.AppendAt
import Derived.Laws.AppendOwnNone
import Derived.OwnWalk
import Derived.Test.YtpihjhfaeloapaaRows
import Derived.WalkLawsBesides
namespace Go.Proofs.On
open Go.RowKit

structure Only (S : Nat → Prop) (w w' : World) : Prop where
  os : w'.os = w.os
  tape : w'.tape = w.tape
  output : w'.output = w.output
  size : w.heap.size ≤ w'.heap.size
  block : ∀ k, k < w.heap.size → ¬ S k → w'.heap[k]? = w.heap[k]?

section
variable {S T : Nat → Prop} {a w w' : World}
theorem Only.refl (S : Nat → Prop) (w : World) : Only S w w := ⟨rfl, rfl, rfl, Nat.le_refl _, fun _ _ _ => rfl⟩
theorem Only.trans (h : Only S a w) (k : Only T w w') (hT : ∀ i, i < a.heap.size → T i → S i) : Only S a w' :=
  ⟨k.os.trans h.os, k.tape.trans h.tape, k.output.trans h.output, Nat.le_trans h.size k.size,
    fun i hi hn => (k.block i (Nat.lt_of_lt_of_le hi h.size) (fun ht => hn (hT i hi ht))).trans (h.block i hi hn)⟩
theorem Only.mono (h : Only S w w') (hT : ∀ i, i < w.heap.size → S i → T i) : Only T w w' :=
  ⟨h.os, h.tape, h.output, h.size, fun i hi hn => h.block i hi (fun hs => hn (hT i hi hs))⟩
theorem Only.drew (h : Only S a w) : Only S a w.drew := ⟨h.os, h.tape, h.output, h.size, h.block⟩
theorem Only.drewN (h : Only S a w) (n : Nat) : Only S a (w.drewN n) := ⟨h.os, h.tape, h.output, h.size, h.block⟩
theorem Only.alloc (h : Only S a w) (o : Obj) : Only S a (w.alloc o) :=
  ⟨h.os, h.tape, h.output, Nat.le_trans h.size (by simp), fun i hi hn => (Below.heap_alloc w o i (Nat.lt_of_lt_of_le hi h.size)).trans (h.block i hi hn)⟩
theorem Only.setCell (h : Only S a w) {p : Addr} (hp : S p.block ∨ a.heap.size ≤ p.block) (u : Value) : Only S a (w.setCell p u) :=
  ⟨h.os, h.tape, h.output, by simpa [World.setCell] using h.size, fun i hi hn => (Below.heap_setCell w p u i (by
    rintro rfl
    rcases hp with hp | hp
    · exact hn hp
    · omega)).trans (h.block i hi hn)⟩
theorem Only.grown (h : Only S a w) {row : Option Nat} (hg : w.grownBy w' row) (hr : ∀ k, row = some k → S k ∨ a.heap.size ≤ k) : Only S a w' :=
  ⟨hg.os.trans h.os, hg.tape.trans h.tape, hg.output.trans h.output, Nat.le_trans h.size hg.size,
    fun i hi hn => (hg.block i (Nat.lt_of_lt_of_le hi h.size) (fun e => by rcases hr i e.symm with h1 | h1; exact hn h1; omega)).trans (h.block i hi hn)⟩
theorem Only.of_below (h : Below w.heap.size w w') : Only S w w' := ⟨h.os, h.tape, h.output, h.size, fun i hi _ => h.block i hi⟩
theorem Only.below (h : Only S w w') {B : Nat} (hB : B ≤ w.heap.size) (hS : ∀ k, S k → B ≤ k) : Below B w w' :=
  ⟨h.os, h.tape, h.output, h.size, fun k hk => h.block k (Nat.lt_of_lt_of_le hk hB) (fun hs => by have := hS k hs; omega)⟩
theorem Only.cell (h : Only S w w') {p : Addr} (hp : p.block < w.heap.size) (hn : ¬ S p.block) : w'.cell? p = w.cell? p := World.cell?_of_block (h.block p.block hp hn)
theorem Only.frozen (h : Only S w w') {p : Addr} (hp : p.block < w.heap.size) (hn : ¬ S p.block) : w'.frozen? p = w.frozen? p := World.frozen?_of_block (h.block p.block hp hn)
theorem Only.kept (h : Only S w w') {k : Nat} {o : Obj} (hk : w.heap[k]? = some o) (hn : ¬ S k) : w'.heap[k]? = some o :=
  (h.block k (Array.getElem?_eq_some_iff.mp hk).1 hn).trans hk
end

/-- block b is just the cells cs, of element type t, none of them frozen -/
def Blk (w : World) (b : Nat) (t : TypeId) (cs : Array Value) : Prop := w.heap[b]? = some (.cells cs t (0, 0))
section
variable {w w' : World} {b : Nat} {t : TypeId} {cs : Array Value}
theorem Blk.lt (h : Blk w b t cs) : b < w.heap.size := (Array.getElem?_eq_some_iff.mp h).1
theorem Blk.cell (h : Blk w b t cs) (i : Nat) : w.cell? ⟨b, i, none⟩ = cs[i]? := cell_of_row w b i cs t (0, 0) h
theorem Blk.frozen (h : Blk w b t cs) (i : Nat) : w.frozen? ⟨b, i, none⟩ = false := by unfold Blk at h; simp [World.frozen?, h]
theorem Blk.new (w : World) (t : TypeId) (cs : Array Value) : Blk (w.alloc (.cells cs t)) w.heap.size t cs := heap_alloc_new w _
theorem Blk.drew (h : Blk w b t cs) : Blk w.drew b t cs := h
theorem Blk.drewN (h : Blk w b t cs) (n : Nat) : Blk (w.drewN n) b t cs := h
theorem Blk.alloc (h : Blk w b t cs) (o : Obj) : Blk (w.alloc o) b t cs := (Below.heap_alloc w o b h.lt).trans h
theorem Blk.set (h : Blk w b t cs) (i : Nat) (u : Value) : Blk (w.setCell ⟨b, i, none⟩ u) b t (cs.setIfInBounds i u) := by
  unfold Blk at h ⊢; simp [World.setCell, Array.getElem?_modify, h]
theorem Blk.far (h : Blk w b t cs) {p : Addr} (hp : b ≠ p.block) (u : Value) : Blk (w.setCell p u) b t cs := (Below.heap_setCell w p u b hp).trans h
theorem Blk.only {S : Nat → Prop} (h : Blk w b t cs) (hO : Only S w w') (hn : ¬ S b) : Blk w' b t cs := hO.kept h hn
theorem Blk.ne {b' : Nat} {t' : TypeId} {cs' : Array Value} (h : Blk w b t cs) (h' : Blk w b' t' cs') (hne : t ≠ t') : b ≠ b' := by
  rintro rfl; unfold Blk at h h'; rw [h] at h'; injection h' with h'; injection h' with _ ht; exact hne ht
end

/-- an owned row, kept where its block has not turned -/
theorem own_only {w w' : World} {S : Nat → Prop} {base : Nat} {e : TypeId} {size : Nat} {v : Value} {n : Nat} {xs : List Value} (h : w.ownsRow base e size v n xs) (hO : Only S w w')
    (hn : ∀ k, v.ownBlock = some k → ¬ S k) : w'.ownsRow base e size v n xs := by
  refine ⟨h.1, ?_⟩
  rcases h.2 with hh | ⟨g, cap, cur, rfl, hb, hg, rest⟩
  · exact .inl hh
  · exact .inr ⟨g, cap, cur, rfl, hb, hO.kept hg (hn g rfl), rest⟩
theorem own_lt {w : World} {base : Nat} {e : TypeId} {size : Nat} {v : Value} {n : Nat} {xs : List Value} (h : w.ownsRow base e size v n xs) {k : Nat} (hk : v.ownBlock = some k) : k < w.heap.size := (h.lt k hk).2
theorem own_slice {w : World} {base : Nat} {e : TypeId} {size : Nat} {v : Value} {n : Nat} {xs : List Value} (h : w.ownsRow base e size v n xs) :
    ∃ A c, v = .slice A n c ∧ ((A = none ∧ n = 0 ∧ c = 0) ∨ ∃ g cur, A = some ⟨g, 0, none⟩ ∧ base ≤ g ∧ Blk w g e cur ∧ n ≤ c ∧ c ≤ maxLen ∧ cur.size = c * size ∧ cur.toList.take (n * size) = xs) := by
  rcases h.2 with ⟨rfl, rfl⟩ | ⟨g, cap, cur, rfl, hb, hg, h1, h2, h3, h4⟩
  · exact ⟨none, 0, rfl, .inl ⟨rfl, rfl, rfl⟩⟩
  · exact ⟨_, cap, rfl, .inr ⟨g, cur, rfl, hb, hg, h1, h2, h3, h4⟩⟩

/-- what append reads: m elements of so many cells, from an address, or none -/
structure Src (w : World) (A : Option Addr) (m size : Nat) (news : List Value) : Prop where
  len : news.length = m * size
  none_ : A = none → m = 0
  cell : ∀ ad, A = some ad → ∀ (j : Nat) u, news[j]? = some u → w.cell? (ad.add j) = some u
  one : ∀ u ∈ news, u.oneCell' = true
theorem Src.block (w : World) (e : TypeId) (size : Nat) (news : List Value) (hl : news.length = size) (h1 : ∀ u ∈ news, u.oneCell' = true) (mk : Nat × Nat) : Src (w.alloc (.cells news.toArray e mk)) (some ⟨w.heap.size, 0, none⟩) 1 size news :=
  ⟨by omega, by simp, fun ad had j u hu => by
    injection had with had; subst had
    have e1 : (⟨w.heap.size, 0, none⟩ : Addr).add j = ⟨w.heap.size, j, none⟩ := by unfold Addr.add; split <;> simp_all
    have hh : (w.alloc (.cells news.toArray e mk)).heap[w.heap.size]? = some (.cells news.toArray e mk) := heap_alloc_new w _
    rw [e1, cell_of_row _ w.heap.size j _ _ mk hh]
    simpa using hu, h1⟩

section
variable {P : Program} (w : World)
theorem own_form {w : World} {base : Nat} {e : TypeId} {size : Nat} {v : Value} {n : Nat} {xs : List Value} (h : w.ownsRow base e size v n xs) : ∃ A c, v = .slice A n c := by
  obtain ⟨A, c, hv, _⟩ := own_slice h; exact ⟨A, c, hv⟩
/-- append onto a row of the call's own: where the new row lies, too -/
theorem run_append_at (base : Nat) (t ty e : TypeId) (i : TypeInfo) (z : Value) (size bytes : Nat) (ht : P.underlying t = some (.slice e)) (hi : P.info? e = some i) (hz : i.zero = some z)
    (hsize : i.size = size) (hby : i.bytes = bytes) (hzs : z.cells.size = size) (hsz : 0 < size)
    (v : Value) (n : Nat) (xs : List Value) (hown : w.ownsRow base e size v n xs) (A : Option Addr) (m c : Nat) (news : List Value) (hs : Src w A m size news) (hc : A = none → c = 0)
    (h63 : n + m ≤ maxLen) (hbytes : (n + m) * bytes ≤ 140737488355328) (hbase : base ≤ w.heap.size) :
    ∃ A' c' w', (Builtin.append_ #[t, t] ty #[v, .slice A m c]).run P w = .ok (.slice A' (n + m) c') w' ∧ w'.ownsRow base e size (.slice A' (n + m) c') (n + m) (xs ++ news) ∧ w.grownBy w' v.ownBlock ∧
      ((Value.slice A' (n + m) c').ownBlock = v.ownBlock ∨ (Value.slice A' (n + m) c').ownBlock = some w.heap.size) := by
  cases A with
  | none =>
    have hm := hs.none_ rfl; subst hm
    have hc := hc rfl; subst hc
    have hn : news = [] := List.eq_nil_of_length_eq_zero (by simpa using hs.len)
    subst hn
    obtain ⟨A', c', hv⟩ := own_form hown
    refine ⟨A', c', w, ?_, ?_, World.grownBy.refl w _, .inl ?_⟩
    · have := run_append_owned_none (P := P) (w := w) base t ty e i size ht hi v n xs hown
      rw [this, hv, Nat.add_zero]
    · rw [Nat.add_zero, ← hv, List.append_nil]; exact hown
    · rw [Nat.add_zero, ← hv]
  | some ad =>
    obtain ⟨v', w', h1, h2, h3, _, h5⟩ := run_append_own_at (P := P) w base t ty e i z size bytes ht hi hz hsize hby hzs hsz v n xs hown ad m c news hs.len (hs.cell ad rfl) hs.one h63 hbytes hbase
    obtain ⟨A', c', hv⟩ := own_form h2
    subst hv
    exact ⟨A', c', w', h1, h2, h3, h5⟩
theorem wp_append_at {o : Oper} {a : Act} {K : Act → World → Prop} {Q : Exit → Act → World → Prop} (s x : Operand) (t : TypeId)
    (ho : o.op = .call { callee := .builtin .append, args := #[s, x], argTypes := #[t, t] })
    (base : Nat) (e : TypeId) (i : TypeInfo) (z : Value) (size bytes : Nat) (ht : P.underlying t = some (.slice e)) (hi : P.info? e = some i) (hz : i.zero = some z)
    (hsize : i.size = size) (hby : i.bytes = bytes) (hzs : z.cells.size = size) (hsz : 0 < size)
    (v : Value) (n : Nat) (xs : List Value) (hv : a.eval s = v) (hown : w.ownsRow base e size v n xs) (A : Option Addr) (m c : Nat) (news : List Value) (hx : a.eval x = .slice A m c) (hs : Src w A m size news) (hc : A = none → c = 0)
    (h63 : n + m ≤ maxLen) (hbytes : (n + m) * bytes ≤ 140737488355328) (hbase : base ≤ w.heap.size)
    (h : ∀ A' c' w', w'.ownsRow base e size (.slice A' (n + m) c') (n + m) (xs ++ news) → w.grownBy w' v.ownBlock →
      ((Value.slice A' (n + m) c').ownBlock = v.ownBlock ∨ (Value.slice A' (n + m) c').ownBlock = some w.heap.size) → K (a.put o.dst (.slice A' (n + m) c')) w') : o.wp P a w K Q := by
  obtain ⟨A', c', w', hrun, h2, h3, h4⟩ := run_append_at (P := P) w base t o.type e i z size bytes ht hi hz hsize hby hzs hsz v n xs hown A m c news hs hc h63 hbytes hbase
  unfold Oper.wp execOp
  simp only [ho, resolve, invoke, builtin, Sem.run_bind, Sem.run_pure, Result.andThen_ok, List.map_toArray, List.map_cons, List.map_nil, hv, hx, hrun]
  exact h A' c' w' h2 h3 h4
theorem wpList_append_at {ops : Array Oper} {rest : List Oper} {o : Oper} {a : Act} {Q : Exit → Act → World → Prop} (hgd : o.guard = none) (s x : Operand) (t : TypeId)
    (ho : o.op = .call { callee := .builtin .append, args := #[s, x], argTypes := #[t, t] })
    (base : Nat) (e : TypeId) (i : TypeInfo) (z : Value) (size bytes : Nat) (ht : P.underlying t = some (.slice e)) (hi : P.info? e = some i) (hz : i.zero = some z)
    (hsize : i.size = size) (hby : i.bytes = bytes) (hzs : z.cells.size = size) (hsz : 0 < size)
    (v : Value) (n : Nat) (xs : List Value) (hv : a.eval s = v) (hown : w.ownsRow base e size v n xs) (A : Option Addr) (m c : Nat) (news : List Value) (hx : a.eval x = .slice A m c) (hs : Src w A m size news) (hc : A = none → c = 0)
    (h63 : n + m ≤ maxLen) (hbytes : (n + m) * bytes ≤ 140737488355328) (hbase : base ≤ w.heap.size)
    (h : ∀ A' c' w', w'.ownsRow base e size (.slice A' (n + m) c') (n + m) (xs ++ news) → w.grownBy w' v.ownBlock →
      ((Value.slice A' (n + m) c').ownBlock = v.ownBlock ∨ (Value.slice A' (n + m) c').ownBlock = some w.heap.size) → wpList P ops Q rest (a.put o.dst (.slice A' (n + m) c')) w') : wpList P ops Q (o :: rest) a w :=
  wpList_plain hgd fun _ hK => wp_append_at w s x t ho base e i z size bytes ht hi hz hsize hby hzs hsz v n xs hv hown A m c news hx hs hc h63 hbytes hbase fun A' c' w' h2 h3 h4 => hK _ _ (h A' c' w' h2 h3 h4)
/-- the same, in a region that draws its order -/
theorem step_append_at {ops : Array Oper} {o : Oper} {a : Act} {K : Act → World → Prop} {Q : Exit → Act → World → Prop} {E : Prop} (hgd : o.guard = none) (s x : Operand) (t : TypeId)
    (ho : o.op = .call { callee := .builtin .append, args := #[s, x], argTypes := #[t, t] })
    (base : Nat) (e : TypeId) (i : TypeInfo) (z : Value) (size bytes : Nat) (ht : P.underlying t = some (.slice e)) (hi : P.info? e = some i) (hz : i.zero = some z)
    (hsize : i.size = size) (hby : i.bytes = bytes) (hzs : z.cells.size = size) (hsz : 0 < size)
    (v : Value) (n : Nat) (xs : List Value) (hv : a.eval s = v) (hown : w.ownsRow base e size v n xs) (A : Option Addr) (m c : Nat) (news : List Value) (hx : a.eval x = .slice A m c) (hs : Src w A m size news) (hc : A = none → c = 0)
    (h63 : n + m ≤ maxLen) (hbytes : (n + m) * bytes ≤ 140737488355328) (hbase : base ≤ w.heap.size)
    (h : ∀ A' c' w', w'.ownsRow base e size (.slice A' (n + m) c') (n + m) (xs ++ news) → w.grownBy w' v.ownBlock →
      ((Value.slice A' (n + m) c').ownBlock = v.ownBlock ∨ (Value.slice A' (n + m) c').ownBlock = some w.heap.size) → K (a.put o.dst (.slice A' (n + m) c')) w') :
    if Region.wanted o (yielded ops a.tmps) = true then Oper.wp P o a w K Q else E := by
  have hw : Region.wanted o (yielded ops a.tmps) = true := by simp [Region.wanted, hgd]
  rw [if_pos hw]
  exact wp_append_at w s x t ho base e i z size bytes ht hi hz hsize hby hzs hsz v n xs hv hown A m c news hx hs hc h63 hbytes hbase h
end
end Go.Proofs.On
namespace Go.Proofs.Ytpihjhfaeloapaa
open Go.RowKit
theorem retI {k : IntKind} {a b : Int} (h : a = b) : Ending.returned (.int k a) = .returned (.int k b) := by rw [h]
theorem retB {a b : Bool} (h : a = b) : Ending.returned (.bool a) = .returned (.bool b) := by rw [h]
theorem tmodEmod (n m : Int) (hm : 0 < m) : (if n.tmod m < 0 then n.tmod m + m else n.tmod m) = n % m := by
  by_cases h : 0 ≤ n
  · rw [Int.tmod_eq_emod_of_nonneg h, if_neg (by have := Int.emod_nonneg n (by omega : m ≠ 0); omega)]
  · have e := Int.tmod_eq_emod (a := n) (b := m)
    by_cases hd : m ∣ n
    · rw [Int.tmod_eq_zero_of_dvd hd, if_neg (by omega), Int.emod_eq_zero_of_dvd hd]
    · rw [if_neg (by rintro (h1 | h1); exact h h1; exact hd h1)] at e
      have l1 := Int.emod_nonneg n (by omega : m ≠ 0); have l2 := Int.emod_lt_of_pos n hm
      have : (m.natAbs : Int) = m := by omega
      rw [this] at e; rw [e, if_pos (by omega)]; omega
theorem pickN (n m : Int) (hm : 0 < m) (hm2 : m ≤ 9223372036854775807) (w : World) :
    Calls Try.prog 27 #[.int .i64 n, .int .i64 m] w fun e w' => e = .returned (.int .i64 (n % m)) ∧ w = w' := by
  have H : Hid (n % m = _) := (tmodEmod n m hm).symm
  have h0 : ¬ m = 0 := by omega
  have l1 := Int.tmod_lt_of_pos n hm
  have l2 : - m < n.tmod m := by have := Int.lt_tmod_of_pos n hm; omega
  by_cases ht : n.tmod m < 0
  · rw [H.out, if_pos ht]; clear H
    go_enter Try.func27, Try.ntmps27
    go_wp2
    go_ret
    exact ⟨rfl, rfl⟩
  · rw [H.out, if_neg ht]; clear H
    go_enter Try.func27, Try.ntmps27
    go_wp2
    go_ret
    exact ⟨rfl, rfl⟩
end Go.Proofs.Ytpihjhfaeloapaa
namespace Go.Proofs.Th
open Go.RowKit Go.Proofs.On
structure Sl where
  part : Int
  shift : Int
  bits : Int
  least : Int
  most : Int
  step : Int
def reg (p s : Int) : Sl := ⟨p, s, 3, 0, 7, 1⟩
def im (s b l m st : Int) : Sl := ⟨3, s, b, l, m, st⟩
def Sl.cells (s : Sl) : List Value := [.int .i64 s.part, .int .i64 s.shift, .int .i64 s.bits, .int .i64 s.least, .int .i64 s.most, .int .i64 s.step]
def cellsOf : List Sl → List Value
  | [] => []
  | s :: l => s.cells ++ cellsOf l
/-- the row of an instruction: its bits, its slots -/
def rowOf (op : Int) : Option (Int × List Sl) :=
  if 12 ≤ op ∧ op ≤ 27 then some (16384 + (op - 12) * 64, [reg 0 0, reg 2 3])
  else if 8 ≤ op ∧ op ≤ 11 then some (8192 + (op - 8) * 2048, [reg 0 8, im 0 8 0 255 1])
  else if op = 1 then some (0, [reg 0 0, reg 2 3, im 6 5 0 31 1])
  else if op = 2 then some (2048, [reg 0 0, reg 2 3, im 6 5 1 32 1])
  else if op = 3 then some (4096, [reg 0 0, reg 2 3, im 6 5 1 32 1])
  else if op = 4 then some (6144, [reg 0 0, reg 1 3, reg 2 6])
  else if op = 5 then some (6656, [reg 0 0, reg 1 3, reg 2 6])
  else if op = 6 then some (7168, [reg 0 0, reg 1 3, im 6 3 0 7 1])
  else if op = 7 then some (7680, [reg 0 0, reg 1 3, im 6 3 0 7 1])
  else if op = 30 then some (20480, [reg 0 0, reg 1 3, reg 2 6])
  else if op = 29 then some (22528, [reg 0 0, reg 1 3, reg 2 6])
  else if op = 32 then some (24576, [reg 0 0, reg 1 3, im 6 5 0 124 4])
  else if op = 31 then some (26624, [reg 0 0, reg 1 3, im 6 5 0 124 4])
  else if op = 34 then some (28672, [reg 0 0, reg 1 3, im 6 5 0 31 1])
  else if op = 33 then some (30720, [reg 0 0, reg 1 3, im 6 5 0 31 1])
  else if op = 36 then some (36864, [reg 0 8, im 0 8 0 1020 4])
  else if op = 35 then some (38912, [reg 0 8, im 0 8 0 1020 4])
  else if op = 37 then some (45056, [im 0 7 0 508 4])
  else if op = 38 then some (45184, [im 0 7 0 508 4])
  else if op = 39 then some (46080, [im 0 9 1 511 1])
  else if op = 40 then some (48128, [im 0 9 1 511 1])
  else if op = 41 then some (53248, [im 0 8 (-256) 254 2, ⟨4, 8, 4, 0, 13, 1⟩])
  else if op = 42 then some (57344, [im 0 11 (-2048) 2046 2])
  else if op = 44 then some (57088, [im 0 8 0 255 1])
  else if op = 45 then some (48896, [])
  else none
end Go.Proofs.Th
namespace Go.Proofs.Th
open Go.RowKit Go.Proofs.On
structure Ins where
  op : Int
  d : Int
  n : Int
  m : Int
  imm : Int
  cond : Int
deriving DecidableEq
def Ins.cells (i : Ins) : Array Value := #[.int .i64 i.op, .int .i64 i.d, .int .i64 i.n, .int .i64 i.m, .int .i64 i.imm, .int .i64 i.cond]
/-- where a part lies -/
def po (k : Int) : Nat := if k = 0 then 1 else if k = 1 then 2 else if k = 2 then 3 else if k = 3 then 4 else 5
def Ins.part (i : Ins) (k : Int) : Int := if k = 0 then i.d else if k = 1 then i.n else if k = 2 then i.m else if k = 3 then i.imm else i.cond
theorem part_cell (i : Ins) (k : Int) : i.cells[po k]? = some (.int .i64 (i.part k)) := by
  unfold po Ins.part Ins.cells
  repeat (first | rfl | split)
/-- may a part be? -/
def rpS : List Sl → Int → Int → Bool
  | [], v, _ => v == 0
  | s :: l, v, k => if s.part = k then decide (s.least ≤ v) && decide (v ≤ s.most) && (v.tmod s.step == 0) else rpS l v k
theorem cellsOf_len (l : List Sl) : (cellsOf l).length = l.length * 6 := by
  induction l with
  | nil => rfl
  | cons s l ih => simp only [cellsOf, List.length_append, ih, Sl.cells, List.length_cons, List.length_nil]; omega
theorem cellsOf_at {l : List Sl} : ∀ {i : Nat} {s : Sl} (_ : l[i]? = some s) {j : Nat} (_ : j < 6), (cellsOf l)[i * 6 + j]? = s.cells[j]? := by
  induction l with
  | nil => intro i s h; simp at h
  | cons x l ih =>
    intro i s h j hj
    cases i with
    | zero => simp at h; subst h; rw [cellsOf, List.getElem?_append_left (by simp [Sl.cells]; omega)]; simp
    | succ i =>
      simp at h
      rw [cellsOf, List.getElem?_append_right (by simp [Sl.cells]; omega), ← ih h hj]
      congr 1; simp [Sl.cells]; omega
/-- the slots of a row, in a block of their own -/
def SlA (u : TypeId) (w : World) (A : Option Addr) (l : List Sl) : Prop := (A = none ∧ l = []) ∨ ∃ g, A = some ⟨g, 0, none⟩ ∧ Blk w g u (cellsOf l).toArray
theorem SlA.below {u : TypeId} {w w' : World} {A : Option Addr} {l : List Sl} (h : SlA u w A l) (hb : Below w.heap.size w w') : SlA u w' A l := by
  rcases h with h | ⟨g, h1, h2⟩
  · exact .inl h
  · exact .inr ⟨g, h1, h2.only (S := fun _ => False) (Only.of_below hb) id⟩
theorem SlA.cell {u : TypeId} {w : World} {A : Option Addr} {l : List Sl} (h : SlA u w A l) {i : Nat} {s : Sl} (hs : l[i]? = some s) :
    ∃ g, A = some ⟨g, 0, none⟩ ∧ g < w.heap.size ∧ w.cell? ⟨g, i * 6, none⟩ = some (.int .i64 s.part) ∧ w.cell? ⟨g, i * 6 + 1, none⟩ = some (.int .i64 s.shift) ∧ w.cell? ⟨g, i * 6 + 2, none⟩ = some (.int .i64 s.bits) ∧
      w.cell? ⟨g, i * 6 + 3, none⟩ = some (.int .i64 s.least) ∧ w.cell? ⟨g, i * 6 + 4, none⟩ = some (.int .i64 s.most) ∧ w.cell? ⟨g, i * 6 + 5, none⟩ = some (.int .i64 s.step) := by
  rcases h with ⟨_, rfl⟩ | ⟨g, h1, h2⟩
  · simp at hs
  · have k : ∀ j : Nat, j < 6 → w.cell? ⟨g, i * 6 + j, none⟩ = s.cells[j]? := fun j hj => by
      rw [h2.cell (i * 6 + j), List.getElem?_toArray]; exact cellsOf_at hs hj
    exact ⟨g, h1, h2.lt, k 0 (by omega), k 1 (by omega), k 2 (by omega), k 3 (by omega), k 4 (by omega), k 5 (by omega)⟩
def rowOk (l : List Sl) (i : Ins) : Bool := rpS l i.d 0 && rpS l i.n 1 && rpS l i.m 2 && rpS l i.imm 3 && rpS l i.cond 4
/-- which instructions may be -/
def rightS (i : Ins) : Bool :=
  if i.op = 28 then decide (i.n = 0) && decide (i.imm = 0) && decide (i.cond = 0) && decide (0 ≤ i.d) && decide (i.d < 15) && decide (i.d ≠ 13) && decide (0 ≤ i.m) && decide (i.m < 15)
  else if i.op = 43 then decide (i.d = 0) && decide (i.n = 0) && decide (i.m = 0) && decide (i.cond = 0) && decide (-16777216 ≤ i.imm) && decide (i.imm ≤ 16777214) && (i.imm.tmod 2 == 0)
  else match rowOf i.op with
    | none => false
    | some (_, l) => rowOk l i
end Go.Proofs.Th
namespace Go.Proofs.Th
open Go.RowKit Go.Proofs.On
/-- a MovH's halfword -/
def enc28 (d m : Int) : Int := IntKind.u16.wrap (bits .or .i64 (bits .or .i64 (bits .or .i64 17920 (wrap64 (d / 8 * 128))) (wrap64 (m * 8))) (bits .and .i64 d 7))
/-- a Bl's halfwords -/
def longS (imm : Int) : Int := if imm < 0 then 1 else 0
def longA (imm : Int) : Int := IntKind.u16.wrap (bits .or .i64 (bits .or .i64 61440 (wrap64 (longS imm * 1024))) (bits .and .i64 (imm / 4096) 1023))
def longJ (imm by_ : Int) : Int := wrap64 (1 - bits .xor .i64 (bits .and .i64 (imm / by_) 1) (longS imm))
def longB (imm : Int) : Int := IntKind.u16.wrap (bits .or .i64 (bits .or .i64 (bits .or .i64 53248 (wrap64 (longJ imm 8388608 * 8192))) (wrap64 (longJ imm 4194304 * 2048))) (bits .and .i64 (imm / 2) 2047))
/-- a slot's part of a halfword -/
def encStep (i : Ins) (h : Int) (s : Sl) : Int := bits .or .u16 h (IntKind.u16.wrap (IntKind.u16.wrap (bits .and .i64 (IntKind.i64.wrap ((i.part s.part).tdiv s.step)) (IntKind.i64.wrap (IntKind.i64.wrap (2 ^ s.bits.toNat) - 1))) * 2 ^ s.shift.toNat))
def encUp (b : Int) (l : List Sl) (i : Ins) (q : Nat) : Int := (l.take q).foldl (encStep i) b
theorem encUp_succ (b : Int) (l : List Sl) (i : Ins) {q : Nat} {s : Sl} (h : l[q]? = some s) : encUp b l i (q + 1) = encStep i (encUp b l i q) s := by
  unfold encUp; rw [List.take_add_one, h]; simp
/-- the halfwords of an instruction that may be -/
def encL (i : Ins) : List Int :=
  if i.op = 28 then [enc28 i.d i.m] else if i.op = 43 then [longA i.imm, longB i.imm]
  else match rowOf i.op with
    | none => []
    | some (b, l) => [encUp b l i l.length]
def okSl (s : Sl) : Bool := decide (s.step ≠ 0) && decide (0 ≤ s.bits) && decide (s.bits < 16) && decide (0 ≤ s.shift) && decide (s.shift < 16)
def chkRow : Option (Int × List Sl) → Bool
  | none => true
  | some p => p.2.all okSl && decide (p.2.length ≤ 5)
theorem chk_ite (c : Prop) [Decidable c] (a b : Option (Int × List Sl)) (ha : chkRow a = true) (hb : chkRow b = true) : chkRow (if c then a else b) = true := by
  by_cases h : c
  · rw [if_pos h]; exact ha
  · rw [if_neg h]; exact hb
theorem chkRow_all (op : Int) : chkRow (rowOf op) = true := by
  unfold rowOf
  repeat' (first | (with_reducible refine chk_ite _ _ _ ?_ ?_) | rfl)
theorem rowOf_ok {op b : Int} {l : List Sl} (h : rowOf op = some (b, l)) : (∀ s ∈ l, s.step ≠ 0 ∧ 0 ≤ s.bits ∧ s.bits < 16 ∧ 0 ≤ s.shift ∧ s.shift < 16) ∧ l.length ≤ 5 := by
  have := chkRow_all op
  rw [h] at this
  simp [chkRow, okSl] at this
  exact ⟨fun s hs => by have := this.1 s hs; omega, this.2⟩
/-- the number of an instruction that a halfword may be of -/
def oddS (h : Int) : Int := if h / 128 = 352 then 37 else if h / 128 = 353 then 38 else if h / 512 = 90 then 39 else if h / 512 = 94 then 40 else 45
def opS (h : Int) : Int :=
  if h / 2048 < 3 then 1 + h / 2048 else if h / 2048 = 3 then 4 + h / 512 % 4 else if h / 2048 < 8 then 8 + (h / 2048 - 4) else if h / 2048 = 8 then 12 + h / 64 % 16
  else if h / 2048 = 10 then 30 else if h / 2048 = 11 then 29 else if h / 2048 = 12 then 32 else if h / 2048 = 13 then 31 else if h / 2048 = 14 then 34 else if h / 2048 = 15 then 33
  else if h / 2048 = 18 then 36 else if h / 2048 = 19 then 35 else if h / 2048 = 22 then oddS h else if h / 2048 = 23 then oddS h
  else if h / 2048 = 26 then (if h / 256 = 223 then 44 else 41) else if h / 2048 = 27 then (if h / 256 = 223 then 44 else 41) else if h / 2048 = 28 then 42 else 0
def Ins.set (i : Ins) (k v : Int) : Ins := if k = 0 then { i with d := v } else if k = 1 then { i with n := v } else if k = 2 then { i with m := v } else if k = 3 then { i with imm := v } else { i with cond := v }
theorem set_cells (i : Ins) (k v : Int) : i.cells.setIfInBounds (po k) (.int .i64 v) = (i.set k v).cells := by
  unfold po Ins.set Ins.cells
  by_cases h0 : k = 0
  · simp [h0]
  by_cases h1 : k = 1
  · simp [h1]
  by_cases h2 : k = 2
  · simp [h2]
  by_cases h3 : k = 3
  · simp [h3]
  · simp [h0, h1, h2, h3]
/-- what a slot tells of a halfword -/
def maskS (s : Sl) : Int := IntKind.u16.wrap (IntKind.u16.wrap (IntKind.u16.wrap (2 ^ s.bits.toNat) - 1) * 2 ^ s.shift.toNat)
def rawS (h : Int) (s : Sl) : Int := IntKind.i64.wrap (IntKind.i64.wrap (bits .and .u16 h (maskS s) / 2 ^ s.shift.toNat) * s.step)
def numS (h : Int) (s : Sl) : Int :=
  if s.most < rawS h s then wrap64 (rawS h s - wrap64 (s.step * 2 ^ s.bits.toNat)) else if rawS h s < s.least then wrap64 (rawS h s + wrap64 (s.step * 2 ^ s.bits.toNat)) else rawS h s
def readStep (h : Int) (st : Ins × Int) (s : Sl) : Ins × Int := (st.1.set s.part (numS h s), bits .andNot .u16 st.2 (maskS s))
def readUp (op h : Int) (l : List Sl) (q : Nat) : Ins × Int := (l.take q).foldl (readStep h) (⟨op, 0, 0, 0, 0, 0⟩, h)
theorem readUp_succ (op h : Int) (l : List Sl) {q : Nat} {s : Sl} (hs : l[q]? = some s) : readUp op h l (q + 1) = readStep h (readUp op h l q) s := by
  unfold readUp; rw [List.take_add_one, hs]; simp
end Go.Proofs.Th
