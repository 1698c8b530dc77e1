/- ir's right and Check. -/
import Derived.Test.YtilifniflpbbkaaDoorIr
import Derived.Deep.DeepCutAuto
import Derived.Deep.CutBlock
import Derived.BigGuardPart
namespace Go.Proofs.YtilifniflpbbkaaDoor
open Go.RowKit On
/-- nodes that lie one behind the other -/
def Nodes (w : World) (A : Option Addr) (l : List Nd) : Prop :=
  ∀ (k : Nat) (n : Nd), l[k]? = some n → n.ok w ∧ ∃ g o, A = some ⟨g, o, none⟩ ∧ w.cell? ⟨g, o + k, none⟩ = some n.val
theorem Nodes.keep {w w' : World} {A : Option Addr} {l : List Nd} (h : Nodes w A l) (hb : Below w.heap.size w w') : Nodes w' A l := fun k n hk => by
  obtain ⟨h1, g, o, h2, h3⟩ := h k n hk
  exact ⟨h1.keep hb, g, o, h2, by rw [hb.cell (World.block_lt_of_cell? w _ h3)]; exact h3⟩
def Nd.rightS (regs : Int) (cnt : Nat) (at_ : Int) (n : Nd) : Bool :=
  n.fieldsS && n.uses.all (fun r => inS r regs) && (n.next at_).all (fun t => inS t (cnt : Int)) && (inS n.dst regs || (n.dst == -1 && n.bareS))
theorem Nd.uses_len {w : World} {n : Nd} (h : n.ok w) : n.uses.length ≤ 8 := by
  cases n <;> simp only [Nd.uses] <;> first | exact h.2 | (split <;> simp) | simp
theorem Nd.next_len (at_ : Int) (n : Nd) : (n.next at_).length ≤ 2 := by
  cases n <;> simp only [Nd.next] <;> first | (split <;> simp) | simp
theorem all_take_succ {l : List Int} {p : Int → Bool} {k : Nat} (h : (l.take k).all p = true) (hk : k < l.length) (hp : p (l[k]'hk) = true) : (l.take (k + 1)).all p = true := by
  rw [List.take_succ_eq_append_getElem hk, List.all_append, h]
  simp [hp]
theorem all_false {l : List Int} {p : Int → Bool} {k : Nat} (hk : k < l.length) (hp : p (l[k]'hk) = false) : l.all p = false := by
  rw [List.all_eq_false]
  exact ⟨_, List.getElem_mem hk, by simp [hp]⟩
set_option maxHeartbeats 16000000 in
set_option maxRecDepth 100000 in
theorem right_c (params regs : Int) (A : Option Addr) (cnt c : Nat) (n : Nd) (at_ : Int) (h0 : 0 ≤ at_) (h1 : at_ < 100000) (w : World) (hok : n.ok w) :
    Calls Tryd.prog 31 #[.agg #[.int .i64 params, .int .i64 regs, .slice A cnt c], n.val, .int .i64 at_] w fun e w' => e = .returned (.bool (n.rightS regs cnt at_)) ∧ Below w.heap.size w w' := by
  have HB0 : Hid (Below w.heap.size w (w.alloc (.cells #[.int .i64 params, .int .i64 regs, .slice A cnt c] 46))) := (Below.refl _ _).alloc (Nat.le_refl _) _
  have KP0 := Lib.hid (Blk.new w 46 #[.int .i64 params, .int .i64 regs, .slice A cnt c])
  have HOK := Lib.hid hok
  have HUL := Lib.hid (Nd.uses_len hok)
  have HNL := Lib.hid (Nd.next_len at_ n)
  have HAT := Lib.hid (And.intro h0 h1)
  clear h0 h1 hok
  have HV : Hid (n.rightS regs cnt at_ = (n.fieldsS && n.uses.all (fun r => inS r regs) && (n.next at_).all (fun t => inS t (cnt : Int)) && (inS n.dst regs || (n.dst == -1 && n.bareS)))) := rfl
  rw [HV.out]
  have HF := Lib.hid (fun w => fields_c n w)
  have HU := Lib.hid (fun w h => uses_c n w h)
  have HN := Lib.hid (fun w => next_c n at_ HAT.out.1 HAT.out.2 w)
  have HD := Lib.hid (fun w => def_c n w)
  have HBR := Lib.hid (fun w => bare_c n w)
  obtain ⟨ff, hff⟩ : ∃ f, n.fieldsS = f := ⟨_, rfl⟩
  obtain ⟨us, hus⟩ : ∃ f, n.uses = f := ⟨_, rfl⟩
  obtain ⟨ns, hns⟩ : ∃ f, n.next at_ = f := ⟨_, rfl⟩
  obtain ⟨d, hd⟩ : ∃ f, n.dst = f := ⟨_, rfl⟩
  obtain ⟨br, hbr⟩ : ∃ f, n.bareS = f := ⟨_, rfl⟩
  rw [hff] at HF HV ⊢
  rw [hus] at HU HUL HV ⊢
  rw [hns] at HN HNL HV ⊢
  rw [hd] at HD HV ⊢
  rw [hbr] at HBR HV ⊢
  clear hff hus hns hd hbr HV HAT
  have HK : Hid (∀ w', Below w.heap.size w w' → n.ok w') := fun w' hb => HOK.out.keep hb
  clear HOK
  generalize n.val = nv at *
  go_enter Tryd.func31, Tryd.ntmps31
  go_wp2_with fail
  refine (HF.out _).mono ?_
  rintro e w1 ⟨rfl, hb⟩
  have HB1 := Lib.hid (HB0.out.trans (hb.mono HB0.out.size))
  have KP1 := Lib.hid (KP0.out.only (S := fun _ => False) (Only.of_below hb) id)
  clear hb HB0 KP0 HF
  cases ff
  · go_wp2_with fail
    go_ret
    exact ⟨by simp, HB1.out⟩
  go_wp2_with fail
  refine (HU.out _ (HK.out _ HB1.out)).mono ?_
  intro e w2 h
  obtain ⟨s, rfl, hi, hb⟩ := h
  have HB2 := Lib.hid (HB1.out.trans (hb.mono HB1.out.size))
  have k2 := KP1.out.only (S := fun _ => False) (Only.of_below hb) id
  have KP2 := Lib.hid k2
  obtain ⟨A1, c1, rfl, _, hcell⟩ := hi
  have HC := Lib.hid hcell
  have p1 := k2.cell 1
  have p2 := k2.cell 2
  simp at p1 p2
  clear hb HB1 KP1 HU k2 hcell
  have hul := HUL.out
  go_wp2_with fail
  go_loopw [18] (fun i wx => ∃ k : Nat, k ≤ us.length ∧ i = .int .i64 k ∧ wx = w2 ∧ (us.take k).all (fun r => inS r regs) = true) (fun i _ => us.length - (intOf i).toNat)
  case atStart => exact ⟨0, Nat.zero_le _, rfl, by first | trivial | rfl, by simp⟩
  case round =>
    obtain ⟨k, hk, rfl, rfl, hall⟩ := hrel
    have HALL := Lib.hid hall
    clear hall
    by_cases hlt : k < us.length
    · obtain ⟨g, o, rfl, hck⟩ := HC.out k _ (List.getElem?_eq_getElem hlt)
      have HX : Hid (inS (us[k]'hlt) regs = true → (us.take (k + 1)).all (fun r => inS r regs) = true) := fun h => all_take_succ HALL.out hlt h
      have HX2 : Hid (inS (us[k]'hlt) regs = false → us.all (fun r => inS r regs) = false) := fun h => all_false hlt h
      generalize us[k]'hlt = x at *
      go_wp2_with fail
      refine (in_c x regs _).mono ?_
      rintro e w' ⟨rfl, rfl⟩
      cases hin : inS x regs
      · go_wp2_with fail
        go_ret
        exact ⟨by rw [HX2.out hin]; simp, HB2.out⟩
      · go_wp2_with fail
        go_roundw
        case rel => exact ⟨k + 1, by omega, by go_num, by first | trivial | rfl, HX.out hin⟩
        case measure => simp [intOf]; omega
    · rename_i w2
      have hku : us.take k = us := List.take_of_length_le (by omega)
      have hall := HALL.out
      rw [hku] at hall
      clear HALL
      have HALL := Lib.hid hall
      have hkl : k = us.length := by omega
      subst hkl
      clear hall hku hul HC
      go_wp2_with fail
      refine (HN.out _).mono ?_
      intro e w3 h
      obtain ⟨s, rfl, hi, hb⟩ := h
      have HB3 := Lib.hid (HB2.out.trans (hb.mono HB2.out.size))
      have k3 := KP2.out.only (S := fun _ => False) (Only.of_below hb) id
      have KP3 := Lib.hid k3
      obtain ⟨A3, c3, rfl, _, hcell⟩ := hi
      have HC := Lib.hid hcell
      clear p1 p2
      have p1 := k3.cell 1
      have p2 := k3.cell 2
      simp at p1 p2
      clear hb HB2 KP2 HN k3 hcell
      have hnl := HNL.out
      go_wp2_with fail
      go_loopw [32] (fun i wx => ∃ k : Nat, k ≤ ns.length ∧ i = .int .i64 k ∧ wx = w3 ∧ (ns.take k).all (fun r => inS r (cnt : Int)) = true) (fun i _ => ns.length - (intOf i).toNat)
      case atStart => exact ⟨0, Nat.zero_le _, rfl, by first | trivial | rfl, by simp⟩
      case round =>
        obtain ⟨k, hk, rfl, rfl, hall⟩ := hrel
        have HA2 := Lib.hid hall
        clear hall
        by_cases hlt : k < ns.length
        · obtain ⟨g, o, rfl, hck⟩ := HC.out k _ (List.getElem?_eq_getElem hlt)
          have HX : Hid (inS (ns[k]'hlt) (cnt : Int) = true → (ns.take (k + 1)).all (fun r => inS r (cnt : Int)) = true) := fun h => all_take_succ HA2.out hlt h
          have HX2 : Hid (inS (ns[k]'hlt) (cnt : Int) = false → ns.all (fun r => inS r (cnt : Int)) = false) := fun h => all_false hlt h
          generalize ns[k]'hlt = x at *
          go_wp2_with fail
          refine (in_c x (cnt : Int) _).mono ?_
          rintro e w' ⟨rfl, rfl⟩
          cases hin : inS x (cnt : Int)
          · go_wp2_with fail
            go_ret
            exact ⟨by rw [HX2.out hin]; simp, HB3.out⟩
          · go_wp2_with fail
            go_roundw
            case rel => exact ⟨k + 1, by omega, by go_num, by first | trivial | rfl, HX.out hin⟩
            case measure => simp [intOf]; omega
        · rename_i w3
          have hku : ns.take k = ns := List.take_of_length_le (by omega)
          have hall := HA2.out
          rw [hku] at hall
          clear HA2
          have HA2 := Lib.hid hall
          have hkl : k = ns.length := by omega
          subst hkl
          clear hall hku hnl HC p1 p2
          go_wp2_with fail
          refine (HD.out _).mono ?_
          rintro e w4 ⟨rfl, hb⟩
          have HB4 := Lib.hid (HB3.out.trans (hb.mono HB3.out.size))
          have k4 := KP3.out.only (S := fun _ => False) (Only.of_below hb) id
          have p1 := k4.cell 1
          simp at p1
          clear hb HB3 KP3 HD k4
          go_wp2_with fail
          refine (in_c d regs _).mono ?_
          rintro e w' ⟨rfl, rfl⟩
          cases hin : inS d regs
          · by_cases h1 : d = -1
            · subst h1
              go_wp2_with fail
              refine (HBR.out _).mono ?_
              rintro e w' ⟨rfl, rfl⟩
              go_wp2_with fail
              go_ret
              exact ⟨by rw [HALL.out, HA2.out, hin]; simp, HB4.out⟩
            · have h1' : (d == -1) = false := by simp [h1]
              go_wp2_with fail
              go_ret
              exact ⟨by rw [HALL.out, HA2.out, hin, h1']; simp, HB4.out⟩
          · go_wp2_with fail
            go_ret
            exact ⟨by rw [HALL.out, HA2.out, hin]; simp, HB4.out⟩
end Go.Proofs.YtilifniflpbbkaaDoor
