/- Contracts of the tests of lists of facts: validity and truth for values, in the program and in the reference. Conditions: the lengths are far from Go's bounds. -/
import Derived.Test.YtifdefkkofngoaaDoorValid
namespace Go.Proofs.YtifdefkkofngoaaDoor
open Go.RowKit
set_option linter.unusedVariables false

/-- What TermClasses returns. -/
def tcl (l : List Pl.Fct) : List Int := if Pl.fsv l then Pl.clsL l else []
theorem tcl_len (l : List Pl.Fct) : (tcl l).length ≤ 9 := by
  unfold tcl; split
  · rw [Pl.clsL_length]; omega
  · simp
theorem all_false {α : Type} {p : α → Bool} {l : List α} {k : Nat} (h : k < l.length) (hp : p l[k] = false) : l.all p = false := by
  rw [List.all_eq_false]; exact ⟨l[k], List.getElem_mem h, by rw [hp]; decide⟩
theorem all_step {α : Type} {p : α → Prop} {l : List α} {k : Nat} (h : k < l.length) (hv : ∀ f ∈ l.take k, p f) (hp : p l[k]) : ∀ f ∈ l.take (k + 1), p f := by
  intro f hf
  rw [take_snoc l k h] at hf
  rcases List.mem_append.1 hf with hf | hf
  · exact hv f hf
  · rw [List.mem_singleton.1 hf]; exact hp
theorem all_done {α : Type} {p : α → Bool} {l : List α} {k : Nat} (h : ¬ k < l.length) (hv : ∀ f ∈ l.take k, p f = true) : l.all p = true := by
  rw [take_eq_all h] at hv; exact List.all_eq_true.2 hv

theorem FactsValid_c (A : Option Addr) (c : Nat) (l : List Pl.Fct) (w : World) (hA : Facts w A l) (hn : l.length ≤ 4611686018427387904) :
    Calls Tryd.prog 78 #[.slice A l.length c] w fun e w' => e = .returned (.bool (Pl.fsv l)) ∧ Grow w w' := by
  by_cases h12 : (12 : Int) < l.length
  · have H := Lib.hid (show Pl.fsv l = false by unfold Pl.fsv; rw [decide_eq_false (by omega)]; rfl)
    go_enter Tryd.func78, Tryd.ntmps78
    go_wp2
    go_ret
    exact ⟨by rw [H.out]; rfl, (by repeat (first | exact Grow.refl _ | assumption | refine Grow.alloc ?_ _ | refine Grow.drew ?_ | refine Grow.drewN ?_ _ | refine Grow.trans ?_ (by assumption) | refine Grow.below ?_ (by assumption) (by first | exact Nat.le_refl _ | omega)))⟩
  · go_enter Tryd.func78, Tryd.ntmps78
    go_wp2
    go_loopw [10] (fun i wr => ∃ k : Nat, k ≤ l.length ∧ i = .int .i64 k ∧ (∀ f ∈ l.take k, Pl.fv f = true) ∧ Grow w wr) (fun i _ => l.length - (intOf i).toNat)
    case atStart => exact ⟨0, Nat.zero_le _, rfl, by simp, (by repeat (first | exact Grow.refl _ | assumption | refine Grow.alloc ?_ _ | refine Grow.drew ?_ | refine Grow.drewN ?_ _ | refine Grow.trans ?_ (by assumption) | refine Grow.below ?_ (by assumption) (by first | exact Nat.le_refl _ | omega)))⟩
    case round =>
      obtain ⟨k, hk, rfl, hv, hg⟩ := hrel
      have HV := Lib.hid hv
      clear hv
      by_cases hlt : k < l.length
      · obtain ⟨b, off, rfl, c0, c1, c2⟩ := (hA.grow hg).at_ hlt
        cases hf : Pl.fv l[k] with
        | true =>
          have HF := Lib.hid hf
          clear hf
          go_wp2_with (go_at_call 104; refine (FactValid_c l[k] _).mono ?_; rintro e w' ⟨rfl, hg1⟩; rw [HF.out])
          go_roundw
          case rel => exact ⟨k + 1, by omega, by go_num, all_step hlt HV.out HF.out, (by repeat (first | exact Grow.refl _ | assumption | refine Grow.alloc ?_ _ | refine Grow.drew ?_ | refine Grow.drewN ?_ _ | refine Grow.trans ?_ (by assumption) | refine Grow.below ?_ (by assumption) (by first | exact Nat.le_refl _ | omega)))⟩
          case measure => simp [intOf]; omega
        | false =>
          have HF := Lib.hid hf
          clear hf
          have H := Lib.hid (show Pl.fsv l = false by unfold Pl.fsv; rw [all_false hlt HF.out, Bool.and_false])
          go_wp2_with (go_at_call 104; refine (FactValid_c l[k] _).mono ?_; rintro e w' ⟨rfl, hg1⟩; rw [HF.out])
          go_ret
          exact ⟨by rw [H.out]; rfl, (by repeat (first | exact Grow.refl _ | assumption | refine Grow.alloc ?_ _ | refine Grow.drew ?_ | refine Grow.drewN ?_ _ | refine Grow.trans ?_ (by assumption) | refine Grow.below ?_ (by assumption) (by first | exact Nat.le_refl _ | omega)))⟩
      · have H := Lib.hid (show Pl.fsv l = true by unfold Pl.fsv; rw [all_done hlt HV.out, decide_eq_true (by omega)]; rfl)
        go_wp2
        go_ret
        exact ⟨by rw [H.out]; rfl, (by repeat (first | exact Grow.refl _ | assumption | refine Grow.alloc ?_ _ | refine Grow.drew ?_ | refine Grow.drewN ?_ _ | refine Grow.trans ?_ (by assumption) | refine Grow.below ?_ (by assumption) (by first | exact Nat.le_refl _ | omega)))⟩

theorem sFactsValid_c (A : Option Addr) (c : Nat) (l : List Pl.Fct) (w : World) (hA : Facts w A l) (hn : l.length ≤ 4611686018427387904) :
    Calls Tryd.prog 81 #[.slice A l.length c] w fun e w' => e = .returned (.bool (Pl.fsv l)) ∧ Grow w w' := by
  go_enter Tryd.func81, Tryd.ntmps81
  go_wp2
  go_loopw [3] (fun i wr => ∃ k : Nat, k ≤ l.length ∧ i = .int .i64 k ∧ (∀ f ∈ l.take k, Pl.fv f = true) ∧ Grow w wr) (fun i _ => l.length - (intOf i).toNat)
  case atStart => exact ⟨0, Nat.zero_le _, rfl, by simp, (by repeat (first | exact Grow.refl _ | assumption | refine Grow.alloc ?_ _ | refine Grow.drew ?_ | refine Grow.drewN ?_ _ | refine Grow.trans ?_ (by assumption) | refine Grow.below ?_ (by assumption) (by first | exact Nat.le_refl _ | omega)))⟩
  case round =>
    obtain ⟨k, hk, rfl, hv, hg⟩ := hrel
    have HV := Lib.hid hv
    clear hv
    by_cases hlt : k < l.length
    · obtain ⟨b, off, rfl, c0, c1, c2⟩ := (hA.grow hg).at_ hlt
      cases hf : Pl.fv l[k] with
      | true =>
        have HF := Lib.hid hf
        clear hf
        go_wp2_with (go_at_call 106; refine (sFactValid_c l[k] _).mono ?_; rintro e w' ⟨rfl, hg1⟩; rw [HF.out])
        go_roundw
        case rel => exact ⟨k + 1, by omega, by go_num, all_step hlt HV.out HF.out, (by repeat (first | exact Grow.refl _ | assumption | refine Grow.alloc ?_ _ | refine Grow.drew ?_ | refine Grow.drewN ?_ _ | refine Grow.trans ?_ (by assumption) | refine Grow.below ?_ (by assumption) (by first | exact Nat.le_refl _ | omega)))⟩
        case measure => simp [intOf]; omega
      | false =>
        have HF := Lib.hid hf
        clear hf
        have H := Lib.hid (show Pl.fsv l = false by unfold Pl.fsv; rw [all_false hlt HF.out, Bool.and_false])
        go_wp2_with (go_at_call 106; refine (sFactValid_c l[k] _).mono ?_; rintro e w' ⟨rfl, hg1⟩; rw [HF.out])
        go_ret
        exact ⟨by rw [H.out]; rfl, (by repeat (first | exact Grow.refl _ | assumption | refine Grow.alloc ?_ _ | refine Grow.drew ?_ | refine Grow.drewN ?_ _ | refine Grow.trans ?_ (by assumption) | refine Grow.below ?_ (by assumption) (by first | exact Nat.le_refl _ | omega)))⟩
    · by_cases h12 : (l.length : Int) ≤ 12
      · have H := Lib.hid (show Pl.fsv l = true by unfold Pl.fsv; rw [all_done hlt HV.out, decide_eq_true (by omega)]; rfl)
        go_wp2
        go_ret
        exact ⟨by rw [H.out]; rfl, (by repeat (first | exact Grow.refl _ | assumption | refine Grow.alloc ?_ _ | refine Grow.drew ?_ | refine Grow.drewN ?_ _ | refine Grow.trans ?_ (by assumption) | refine Grow.below ?_ (by assumption) (by first | exact Nat.le_refl _ | omega)))⟩
      · have H := Lib.hid (show Pl.fsv l = false by unfold Pl.fsv; rw [decide_eq_false (by omega)]; rfl)
        go_wp2
        go_ret
        exact ⟨by rw [H.out]; rfl, (by repeat (first | exact Grow.refl _ | assumption | refine Grow.alloc ?_ _ | refine Grow.drew ?_ | refine Grow.drewN ?_ _ | refine Grow.trans ?_ (by assumption) | refine Grow.below ?_ (by assumption) (by first | exact Nat.le_refl _ | omega)))⟩

theorem hold_def (l : List Pl.Fct) (vs : List Int) : Pl.holdB l vs = l.all fun f => (decide (Pl.tval vs f.a = Pl.tval vs f.b)) == f.e := rfl

theorem hold_t {x y : Int} {e : Bool} (h : ((decide (x = y)) == e) = true) : (!((x == y) == e)) = false := by
  rw [show (x == y) = decide (x = y) from by rw [Bool.eq_iff_iff]; simp, h]; rfl
theorem hold_f {x y : Int} {e : Bool} (h : ((decide (x = y)) == e) = false) : (!((x == y) == e)) = true := by
  rw [show (x == y) = decide (x = y) from by rw [Bool.eq_iff_iff]; simp, h]; rfl

end Go.Proofs.YtifdefkkofngoaaDoor
