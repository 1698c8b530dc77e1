/- The walk of WordKnown. -/
import Derived.Test.YtelkohkacdocpaaWBytes
import Derived.Lib.SlBytesConst
namespace Go.Proofs.Ytelkohkacdocpaa
open Go.RowKit By
theorem bs_new (w : World) (l : List Int) (C : Array Value) (hC : C = (l.map (Value.int .u8)).toArray) (mk : Nat × Nat) (hl : ∀ x ∈ l, 0 ≤ x ∧ x ≤ 255) :
    Bs (w.alloc (.cells C 5 mk)) (some ⟨w.heap.size, 0, none⟩) l.length l := by
  subst hC
  refine ⟨rfl, hl, by simp, ?_⟩
  rintro b o s i hA hi
  simp only [Option.some.injEq, Addr.mk.injEq] at hA
  obtain ⟨rfl, rfl, rfl⟩ := hA
  refine ⟨?_, rfl, by simp⟩
  have hh : (w.alloc (.cells (l.map (Value.int .u8)).toArray 5 mk)).heap[w.heap.size]? = some (.cells (l.map (Value.int .u8)).toArray 5 mk) := heap_alloc_new w _
  rw [cell_of_row _ w.heap.size (0 + i) _ _ mk hh]
  simp [List.getD_eq_getElem?_getD, hi]
set_option maxRecDepth 100000 in
set_option maxHeartbeats 2000000 in
theorem wordKnown_walk (w : World) : Calls Try.prog 9 #[] w fun e w' => e = .returned (.bool true) ∧ Below w.heap.size w w' := by
  have RM : Hid (Wd.R (-2147483648)) := by unfold Hid Wd.R; omega
  have R1 : Hid (Wd.R (-1)) := by unfold Hid Wd.R; omega
  have R0 : Hid (Wd.R 0) := by unfold Hid Wd.R; omega
  have R2 : Hid (Wd.R 2) := by unfold Hid Wd.R; omega
  have R7 : Hid (Wd.R (-7)) := by unfold Hid Wd.R; omega
  have RA : Hid (Wd.R 1) := by unfold Hid Wd.R; omega
  have h1 : (Wd.quo (-2147483648) (-1) == -2147483648) = true := by decide +kernel
  have h2 : (Wd.rem (-2147483648) (-1) == 0) = true := by decide +kernel
  have h3 : (Wd.quo 1 0 == 0) = true := by decide +kernel
  have h4 : (Wd.rem (-7) 2 == -1) = true := by decide +kernel
  have h5 : (Wd.shr (-1) 31 == 1) = true := by decide +kernel
  have h6 : (Wd.lt (-1) 0 == 1) = true := by decide +kernel
  have h7 : (Wd.eq 3 3 == 1) = true := by decide +kernel
  have h8 : (Wd.not 0 == -1) = true := by decide +kernel
  have h9 : (Wd.neg (-2147483648) == -2147483648) = true := by decide +kernel
  have y1 : (Wd.yes true == 1) = true := rfl
  have y0 : (Wd.yes false == 0) = true := rfl
  have kc := fun (w : World) (C : Array Value) (n c : Nat) => Lib.run_convert_bytes_const (P := Try.prog) w 32 5 C n c Try.underlying32 Try.underlying5
  have kc2 : ∀ (w : World) (o : Obj) (C : Array Value) (n c : Nat), (convert 32 32 (.slice (some ⟨w.heap.size + 1, 0, none⟩) n c)).run Try.prog ((w.alloc o).alloc (.cells C 5)) =
      .ok (.slice (some ⟨w.heap.size + 1, 0, none⟩) n c) ((w.alloc o).alloc (.cells C 5 (C.size, C.size + 1))) := fun w o C n c => by
    have := kc (w.alloc o) C n c
    rwa [show (w.alloc o).heap.size = w.heap.size + 1 by simp] at this
  go_enter Try.func9, Try.ntmps9
  go_wp2_with (first
    | (go_at_call 22; (with_reducible refine (shr_c _ _ _).mono ?_); rintro e w' ⟨rfl, rfl⟩)
    | (go_at_call 17; (with_reducible refine (eq_c _ _ _).mono ?_); rintro e w' ⟨rfl, rfl⟩)
    | (go_at_call 12; (with_reducible refine (neg_c _ _).mono ?_); rintro e w' ⟨rfl, rfl⟩)
    | (go_at_call 14; (with_reducible refine (not_c _ _).mono ?_); rintro e w' ⟨rfl, rfl⟩)
    | (go_at_call 11; (with_reducible refine (known_c _).mono ?_); rintro e w' ⟨rfl, rfl⟩)
    | (go_at_call 25; (with_reducible refine (lt_c _ _ R1.out R0.out _).mono ?_); rintro e w' ⟨rfl, rfl⟩)
    | (go_at_call 28; (with_reducible refine (div_c _ _ RM.out R1.out _).mono ?_); rintro e w' ⟨rfl, rfl⟩)
    | (go_at_call 29; (with_reducible refine (rem_c _ _ RM.out R1.out _).mono ?_); rintro e w' ⟨rfl, rfl⟩)
    | (go_at_call 28; (with_reducible refine (div_c _ _ RA.out R0.out _).mono ?_); rintro e w' ⟨rfl, rfl⟩)
    | (go_at_call 29; (with_reducible refine (rem_c _ _ R7.out R2.out _).mono ?_); rintro e w' ⟨rfl, rfl⟩))
  refine (same_p (some ⟨w.heap.size, 0, none⟩) (some ⟨w.heap.size + 1, 0, none⟩) 1 _ 2 _ [97] [97, 98] _ false (by decide) ?_ ?_ (by unfold maxLen; omega)).mono ?_
  · have := bs_new w [97] _ rfl (1, 2) (by simp)
    exact this.keep (fun p hp => World.cell?_alloc_lt _ _ _ hp) (by simp)
  · have := bs_new (w.alloc (.cells #[.int .u8 97] 5 (1, 2))) [97, 98] _ rfl (2, 3) (by simp)
    simpa using this
  rintro e w' ⟨rfl, k1, rfl⟩
  go_wp2_with fail
  refine (same_p none none 0 0 0 0 [] [] _ true (by decide) ⟨rfl, by simp, fun _ => rfl, fun _ _ _ _ e => by cases e⟩ ⟨rfl, by simp, fun _ => rfl, fun _ _ _ _ e => by cases e⟩ (by unfold maxLen; omega)).mono ?_
  rintro e w' ⟨rfl, k2, rfl⟩
  go_wp2_with fail
  go_ret
  exact ⟨rfl, below_drewN (((Below.refl _ _).alloc (Nat.le_refl _) _).alloc (by simp) _) _⟩
end Go.Proofs.Ytelkohkacdocpaa
