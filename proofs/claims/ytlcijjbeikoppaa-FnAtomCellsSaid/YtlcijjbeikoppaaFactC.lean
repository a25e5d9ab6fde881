/- Contracts of the tests of lists of facts: validity and truth for values, in the program and in the reference. Conditions: the lengths are far from Go's bounds. -/
import Derived.Test.YtlcijjbeikoppaaValid
namespace Go.Proofs.Ytlcijjbeikoppaa
open Go.RowKit
set_option linter.unusedVariables false

/-- What TermClasses returns. -/
def tcl (l : List Pl.Fct) : List Int := if Pl.fsv l then Pl.clsL l else []
theorem tcl_len (l : List Pl.Fct) : (tcl l).length ≤ 9 := by
  unfold tcl; split
  · rw [Pl.clsL_length]; omega
  · simp
theorem all_false {α : Type} {p : α → Bool} {l : List α} {k : Nat} (h : k < l.length) (hp : p l[k] = false) : l.all p = false := by
  rw [List.all_eq_false]; exact ⟨l[k], List.getElem_mem h, by rw [hp]; decide⟩
theorem all_step {α : Type} {p : α → Prop} {l : List α} {k : Nat} (h : k < l.length) (hv : ∀ f ∈ l.take k, p f) (hp : p l[k]) : ∀ f ∈ l.take (k + 1), p f := by
  intro f hf
  rw [take_snoc l k h] at hf
  rcases List.mem_append.1 hf with hf | hf
  · exact hv f hf
  · rw [List.mem_singleton.1 hf]; exact hp
theorem all_done {α : Type} {p : α → Bool} {l : List α} {k : Nat} (h : ¬ k < l.length) (hv : ∀ f ∈ l.take k, p f = true) : l.all p = true := by
  rw [take_eq_all h] at hv; exact List.all_eq_true.2 hv

theorem FactsValid_c (A : Option Addr) (c : Nat) (l : List Pl.Fct) (w : World) (hA : Facts w A l) (hn : l.length ≤ 4611686018427387904) :
    Calls Try.prog 71 #[.slice A l.length c] w fun e w' => e = .returned (.bool (Pl.fsv l)) ∧ Grow w w' := by
  by_cases h12 : (12 : Int) < l.length
  · have H := Lib.hid (show Pl.fsv l = false by unfold Pl.fsv; rw [decide_eq_false (by omega)]; rfl)
    go_enter Try.func71, Try.ntmps71
    go_wp2
    go_ret
    exact ⟨by rw [H.out]; rfl, (by repeat (first | exact Grow.refl _ | assumption | refine Grow.alloc ?_ _ | refine Grow.drew ?_ | refine Grow.drewN ?_ _ | refine Grow.trans ?_ (by assumption) | refine Grow.below ?_ (by assumption) (by first | exact Nat.le_refl _ | omega)))⟩
  · go_enter Try.func71, Try.ntmps71
    go_wp2
    go_loopw [10] (fun i wr => ∃ k : Nat, k ≤ l.length ∧ i = .int .i64 k ∧ (∀ f ∈ l.take k, Pl.fv f = true) ∧ Grow w wr) (fun i _ => l.length - (intOf i).toNat)
    case atStart => exact ⟨0, Nat.zero_le _, rfl, by simp, (by repeat (first | exact Grow.refl _ | assumption | refine Grow.alloc ?_ _ | refine Grow.drew ?_ | refine Grow.drewN ?_ _ | refine Grow.trans ?_ (by assumption) | refine Grow.below ?_ (by assumption) (by first | exact Nat.le_refl _ | omega)))⟩
    case round =>
      obtain ⟨k, hk, rfl, hv, hg⟩ := hrel
      have HV := Lib.hid hv
      clear hv
      by_cases hlt : k < l.length
      · obtain ⟨b, off, rfl, c0, c1, c2⟩ := (hA.grow hg).at_ hlt
        cases hf : Pl.fv l[k] with
        | true =>
          have HF := Lib.hid hf
          clear hf
          go_wp2_with (go_at_call 95; refine (FactValid_c l[k] _).mono ?_; rintro e w' ⟨rfl, hg1⟩; rw [HF.out])
          go_roundw
          case rel => exact ⟨k + 1, by omega, by go_num, all_step hlt HV.out HF.out, (by repeat (first | exact Grow.refl _ | assumption | refine Grow.alloc ?_ _ | refine Grow.drew ?_ | refine Grow.drewN ?_ _ | refine Grow.trans ?_ (by assumption) | refine Grow.below ?_ (by assumption) (by first | exact Nat.le_refl _ | omega)))⟩
          case measure => simp [intOf]; omega
        | false =>
          have HF := Lib.hid hf
          clear hf
          have H := Lib.hid (show Pl.fsv l = false by unfold Pl.fsv; rw [all_false hlt HF.out, Bool.and_false])
          go_wp2_with (go_at_call 95; refine (FactValid_c l[k] _).mono ?_; rintro e w' ⟨rfl, hg1⟩; rw [HF.out])
          go_ret
          exact ⟨by rw [H.out]; rfl, (by repeat (first | exact Grow.refl _ | assumption | refine Grow.alloc ?_ _ | refine Grow.drew ?_ | refine Grow.drewN ?_ _ | refine Grow.trans ?_ (by assumption) | refine Grow.below ?_ (by assumption) (by first | exact Nat.le_refl _ | omega)))⟩
      · have H := Lib.hid (show Pl.fsv l = true by unfold Pl.fsv; rw [all_done hlt HV.out, decide_eq_true (by omega)]; rfl)
        go_wp2
        go_ret
        exact ⟨by rw [H.out]; rfl, (by repeat (first | exact Grow.refl _ | assumption | refine Grow.alloc ?_ _ | refine Grow.drew ?_ | refine Grow.drewN ?_ _ | refine Grow.trans ?_ (by assumption) | refine Grow.below ?_ (by assumption) (by first | exact Nat.le_refl _ | omega)))⟩

theorem sFactsValid_c (A : Option Addr) (c : Nat) (l : List Pl.Fct) (w : World) (hA : Facts w A l) (hn : l.length ≤ 4611686018427387904) :
    Calls Try.prog 67 #[.slice A l.length c] w fun e w' => e = .returned (.bool (Pl.fsv l)) ∧ Grow w w' := by
  go_enter Try.func67, Try.ntmps67
  go_wp2
  go_loopw [3] (fun i wr => ∃ k : Nat, k ≤ l.length ∧ i = .int .i64 k ∧ (∀ f ∈ l.take k, Pl.fv f = true) ∧ Grow w wr) (fun i _ => l.length - (intOf i).toNat)
  case atStart => exact ⟨0, Nat.zero_le _, rfl, by simp, (by repeat (first | exact Grow.refl _ | assumption | refine Grow.alloc ?_ _ | refine Grow.drew ?_ | refine Grow.drewN ?_ _ | refine Grow.trans ?_ (by assumption) | refine Grow.below ?_ (by assumption) (by first | exact Nat.le_refl _ | omega)))⟩
  case round =>
    obtain ⟨k, hk, rfl, hv, hg⟩ := hrel
    have HV := Lib.hid hv
    clear hv
    by_cases hlt : k < l.length
    · obtain ⟨b, off, rfl, c0, c1, c2⟩ := (hA.grow hg).at_ hlt
      cases hf : Pl.fv l[k] with
      | true =>
        have HF := Lib.hid hf
        clear hf
        go_wp2_with (go_at_call 94; refine (sFactValid_c l[k] _).mono ?_; rintro e w' ⟨rfl, hg1⟩; rw [HF.out])
        go_roundw
        case rel => exact ⟨k + 1, by omega, by go_num, all_step hlt HV.out HF.out, (by repeat (first | exact Grow.refl _ | assumption | refine Grow.alloc ?_ _ | refine Grow.drew ?_ | refine Grow.drewN ?_ _ | refine Grow.trans ?_ (by assumption) | refine Grow.below ?_ (by assumption) (by first | exact Nat.le_refl _ | omega)))⟩
        case measure => simp [intOf]; omega
      | false =>
        have HF := Lib.hid hf
        clear hf
        have H := Lib.hid (show Pl.fsv l = false by unfold Pl.fsv; rw [all_false hlt HF.out, Bool.and_false])
        go_wp2_with (go_at_call 94; refine (sFactValid_c l[k] _).mono ?_; rintro e w' ⟨rfl, hg1⟩; rw [HF.out])
        go_ret
        exact ⟨by rw [H.out]; rfl, (by repeat (first | exact Grow.refl _ | assumption | refine Grow.alloc ?_ _ | refine Grow.drew ?_ | refine Grow.drewN ?_ _ | refine Grow.trans ?_ (by assumption) | refine Grow.below ?_ (by assumption) (by first | exact Nat.le_refl _ | omega)))⟩
    · by_cases h12 : (l.length : Int) ≤ 12
      · have H := Lib.hid (show Pl.fsv l = true by unfold Pl.fsv; rw [all_done hlt HV.out, decide_eq_true (by omega)]; rfl)
        go_wp2
        go_ret
        exact ⟨by rw [H.out]; rfl, (by repeat (first | exact Grow.refl _ | assumption | refine Grow.alloc ?_ _ | refine Grow.drew ?_ | refine Grow.drewN ?_ _ | refine Grow.trans ?_ (by assumption) | refine Grow.below ?_ (by assumption) (by first | exact Nat.le_refl _ | omega)))⟩
      · have H := Lib.hid (show Pl.fsv l = false by unfold Pl.fsv; rw [decide_eq_false (by omega)]; rfl)
        go_wp2
        go_ret
        exact ⟨by rw [H.out]; rfl, (by repeat (first | exact Grow.refl _ | assumption | refine Grow.alloc ?_ _ | refine Grow.drew ?_ | refine Grow.drewN ?_ _ | refine Grow.trans ?_ (by assumption) | refine Grow.below ?_ (by assumption) (by first | exact Nat.le_refl _ | omega)))⟩


theorem termValue_c (A : Option Addr) (c : Nat) (vs : List Int) (t : Int) (w : World) (hA : Ints w A vs) (hn : vs.length = 8) (h0 : 0 ≤ t) (h8 : t ≤ 8) :
    Calls Try.prog 54 #[.slice A 8 c, .int .i64 t] w fun e w' => e = .returned (.int .i64 (Pl.tval vs t)) ∧ w = w' := by
  by_cases ht : t = 0
  · subst ht
    clear h0 h8
    go_enter Try.func54, Try.ntmps54
    go_wp2
    go_ret
    exact ⟨rfl, rfl⟩
  · obtain ⟨n, rfl⟩ : ∃ n : Nat, t = (n : Int) + 1 := ⟨(t - 1).toNat, by omega⟩
    have hlt : n < vs.length := by omega
    have H := Lib.hid (show Pl.tval vs ((n : Int) + 1) = vs[n] by
      unfold Pl.tval; rw [if_neg ht, show ((n : Int) + 1 - 1).toNat = n from by omega, List.getD_eq_getElem?_getD, List.getElem?_eq_getElem hlt]; rfl)
    obtain ⟨b, off, rfl, c0⟩ := hA.at_ hlt
    have hb : (((n : Int) + 1) == 0) = false := by simp; omega
    have hN := Lib.hid hn
    clear hn ht
    go_enter Try.func54, Try.ntmps54
    go_wp2
    go_ret
    exact ⟨by rw [H.out]; rfl, rfl⟩

theorem l1Value_c (A : Option Addr) (c : Nat) (vs : List Int) (t : Int) (w : World) (hA : Ints w A vs) (hn : vs.length = 8) (h0 : 0 ≤ t) (h8 : t ≤ 8) :
    Calls Try.prog 80 #[.slice A 8 c, .int .i64 t] w fun e w' => e = .returned (.int .i64 (Pl.tval vs t)) ∧ w = w' := by
  by_cases ht : t = 0
  · subst ht
    clear h0 h8
    go_enter Try.func80, Try.ntmps80
    go_wp2
    go_ret
    exact ⟨rfl, rfl⟩
  · obtain ⟨n, rfl⟩ : ∃ n : Nat, t = (n : Int) + 1 := ⟨(t - 1).toNat, by omega⟩
    have hlt : n < vs.length := by omega
    have H := Lib.hid (show Pl.tval vs ((n : Int) + 1) = vs[n] by
      unfold Pl.tval; rw [if_neg ht, show ((n : Int) + 1 - 1).toNat = n from by omega, List.getD_eq_getElem?_getD, List.getElem?_eq_getElem hlt]; rfl)
    obtain ⟨b, off, rfl, c0⟩ := hA.at_ hlt
    have hb : (((n : Int) + 1) == 0) = false := by simp; omega
    have hN := Lib.hid hn
    clear hn ht
    go_enter Try.func80, Try.ntmps80
    go_wp2
    go_ret
    exact ⟨by rw [H.out]; rfl, rfl⟩

theorem hold_def (l : List Pl.Fct) (vs : List Int) : Pl.holdB l vs = l.all fun f => (decide (Pl.tval vs f.a = Pl.tval vs f.b)) == f.e := rfl

theorem hold_t {x y : Int} {e : Bool} (h : ((decide (x = y)) == e) = true) : (!((x == y) == e)) = false := by
  rw [show (x == y) = decide (x = y) from by rw [Bool.eq_iff_iff]; simp, h]; rfl
theorem hold_f {x y : Int} {e : Bool} (h : ((decide (x = y)) == e) = false) : (!((x == y) == e)) = true := by
  rw [show (x == y) = decide (x = y) from by rw [Bool.eq_iff_iff]; simp, h]; rfl

set_option maxHeartbeats 400000 in
theorem FactsHold_c (A B : Option Addr) (c d : Nat) (l : List Pl.Fct) (vs : List Int) (w : World) (hA : Facts w A l) (hB : Ints w B vs) (hn : l.length ≤ 4611686018427387904) (hm : vs.length ≤ 4611686018427387904) :
    Calls Try.prog 89 #[.slice A l.length c, .slice B vs.length d] w fun e w' => e = .returned (.bool (Pl.fhold l vs)) ∧ Grow w w' := by
  cases hf : Pl.fsv l with
  | false =>
    have HF := Lib.hid hf
    have H := Lib.hid (show Pl.fhold l vs = false by unfold Pl.fhold; rw [hf]; rfl)
    clear hf
    go_enter Try.func89, Try.ntmps89
    go_wp2_with (go_at_call 71; refine (FactsValid_c _ _ l _ hA hn).mono ?_; rintro e w' ⟨rfl, hg1⟩; rw [HF.out])
    go_ret
    exact ⟨by rw [H.out]; rfl, (by repeat (first | exact Grow.refl _ | assumption | refine Grow.alloc ?_ _ | refine Grow.drew ?_ | refine Grow.drewN ?_ _ | refine Grow.trans ?_ (by assumption) | refine Grow.below ?_ (by assumption) (by first | exact Nat.le_refl _ | omega)))⟩
  | true =>
    have HF := Lib.hid hf
    by_cases h8 : vs.length = 8
    · have H8 := Lib.hid h8
      rw [h8]
      clear hf h8
      go_enter Try.func89, Try.ntmps89
      go_wp2_with (go_at_call 71; refine (FactsValid_c _ _ l _ hA hn).mono ?_; rintro e w' ⟨rfl, hg1⟩; rw [HF.out])
      go_loopw [17] (fun i wr => ∃ k : Nat, k ≤ l.length ∧ i = .int .i64 k ∧ (∀ f ∈ l.take k, ((decide (Pl.tval vs f.a = Pl.tval vs f.b)) == f.e) = true) ∧ Grow w wr) (fun i _ => l.length - (intOf i).toNat)
      case atStart => exact ⟨0, Nat.zero_le _, rfl, by simp, (by repeat (first | exact Grow.refl _ | assumption | refine Grow.alloc ?_ _ | refine Grow.drew ?_ | refine Grow.drewN ?_ _ | refine Grow.trans ?_ (by assumption) | refine Grow.below ?_ (by assumption) (by first | exact Nat.le_refl _ | omega)))⟩
      case round =>
        obtain ⟨k, hk, rfl, hv, hg⟩ := hrel
        have HV := Lib.hid hv
        clear hv
        by_cases hlt : k < l.length
        · obtain ⟨b, off, rfl, c0, c1, c2⟩ := (hA.grow hg).at_ hlt
          have hB1 := (hB.grow hg)
          obtain ⟨⟨a0, a1⟩, ⟨b0, b1⟩⟩ := (Pl.fv_iff _).1 ((Pl.fsv_iff l).1 HF.out |>.2 l[k] (List.getElem_mem hlt))
          have hq := hB1.grow (Grow.alloc (Grow.refl wr) (.cells #[.bool l[k].e, .int .i64 l[k].a, .int .i64 l[k].b] 75))
          clear hB1
          cases hp : ((decide (Pl.tval vs l[k].a = Pl.tval vs l[k].b)) == l[k].e) with
          | true =>
            have HP := Lib.hid hp
            have hb := hold_t hp
            clear hp
            go_wp2_with fail
            go_quiet ((go_at_call 54; exact qcall (termValue_c _ _ vs _ _ (hq.grow (by repeat (first | exact Grow.refl _ | assumption | refine Grow.alloc ?_ _ | refine Grow.drew ?_ | refine Grow.drewN ?_ _ | refine Grow.trans ?_ (by assumption) | refine Grow.below ?_ (by assumption) (by first | exact Nat.le_refl _ | omega)))) H8.out (by assumption) (by assumption))))
            go_wp2
            go_roundw
            case rel => exact ⟨k + 1, by omega, by go_num, all_step hlt HV.out HP.out, (by repeat (first | exact Grow.refl _ | assumption | refine Grow.alloc ?_ _ | refine Grow.drew ?_ | refine Grow.drewN ?_ _ | refine Grow.trans ?_ (by assumption) | refine Grow.below ?_ (by assumption) (by first | exact Nat.le_refl _ | omega)))⟩
            case measure => simp [intOf]; omega
          | false =>
            have H := Lib.hid (show Pl.fhold l vs = false by unfold Pl.fhold; rw [hold_def, all_false hlt hp, Bool.and_false])
            have hb := hold_f hp
            clear hp
            go_wp2_with fail
            go_quiet ((go_at_call 54; exact qcall (termValue_c _ _ vs _ _ (hq.grow (by repeat (first | exact Grow.refl _ | assumption | refine Grow.alloc ?_ _ | refine Grow.drew ?_ | refine Grow.drewN ?_ _ | refine Grow.trans ?_ (by assumption) | refine Grow.below ?_ (by assumption) (by first | exact Nat.le_refl _ | omega)))) H8.out (by assumption) (by assumption))))
            go_wp2
            go_ret
            exact ⟨by rw [H.out]; rfl, (by repeat (first | exact Grow.refl _ | assumption | refine Grow.alloc ?_ _ | refine Grow.drew ?_ | refine Grow.drewN ?_ _ | refine Grow.trans ?_ (by assumption) | refine Grow.below ?_ (by assumption) (by first | exact Nat.le_refl _ | omega)))⟩
        · have H := Lib.hid (show Pl.fhold l vs = true by unfold Pl.fhold; rw [hold_def, all_done hlt HV.out, HF.out, decide_eq_true H8.out]; rfl)
          go_wp2
          go_ret
          exact ⟨by rw [H.out]; rfl, (by repeat (first | exact Grow.refl _ | assumption | refine Grow.alloc ?_ _ | refine Grow.drew ?_ | refine Grow.drewN ?_ _ | refine Grow.trans ?_ (by assumption) | refine Grow.below ?_ (by assumption) (by first | exact Nat.le_refl _ | omega)))⟩
    · have H := Lib.hid (show Pl.fhold l vs = false by unfold Pl.fhold; rw [decide_eq_false h8, Bool.and_false]; rfl)
      have hb : ((vs.length : Int) != 8) = true := by simp; omega
      clear hf h8
      go_enter Try.func89, Try.ntmps89
      go_wp2_with (go_at_call 71; refine (FactsValid_c _ _ l _ hA hn).mono ?_; rintro e w' ⟨rfl, hg1⟩; rw [HF.out])
      go_ret
      exact ⟨by rw [H.out]; rfl, (by repeat (first | exact Grow.refl _ | assumption | refine Grow.alloc ?_ _ | refine Grow.drew ?_ | refine Grow.drewN ?_ _ | refine Grow.trans ?_ (by assumption) | refine Grow.below ?_ (by assumption) (by first | exact Nat.le_refl _ | omega)))⟩

set_option maxHeartbeats 400000 in
theorem l1Hold_c (A B : Option Addr) (c d : Nat) (l : List Pl.Fct) (vs : List Int) (w : World) (hA : Facts w A l) (hB : Ints w B vs) (hn : l.length ≤ 4611686018427387904) (h8 : vs.length = 8) (hf : ∀ f ∈ l, Pl.fv f = true) :
    Calls Try.prog 97 #[.slice A l.length c, .slice B 8 d] w fun e w' => e = .returned (.bool (Pl.holdB l vs)) ∧ Grow w w' := by
  have H8 := Lib.hid h8
  have HF := Lib.hid hf
  clear hf h8
  go_enter Try.func97, Try.ntmps97
  go_wp2
  go_loopw [5] (fun i wr => ∃ k : Nat, k ≤ l.length ∧ i = .int .i64 k ∧ (∀ f ∈ l.take k, ((decide (Pl.tval vs f.a = Pl.tval vs f.b)) == f.e) = true) ∧ Grow w wr) (fun i _ => l.length - (intOf i).toNat)
  case atStart => exact ⟨0, Nat.zero_le _, rfl, by simp, (by repeat (first | exact Grow.refl _ | assumption | refine Grow.alloc ?_ _ | refine Grow.drew ?_ | refine Grow.drewN ?_ _ | refine Grow.trans ?_ (by assumption) | refine Grow.below ?_ (by assumption) (by first | exact Nat.le_refl _ | omega)))⟩
  case round =>
    obtain ⟨k, hk, rfl, hv, hg⟩ := hrel
    have HV := Lib.hid hv
    clear hv
    by_cases hlt : k < l.length
    · obtain ⟨b, off, rfl, c0, c1, c2⟩ := (hA.grow hg).at_ hlt
      have hq := (hB.grow hg)
      obtain ⟨⟨a0, a1⟩, ⟨b0, b1⟩⟩ := (Pl.fv_iff _).1 (HF.out l[k] (List.getElem_mem hlt))
      have hk0 : (0 : Int) ≤ (k : Int) := by omega
      have hk1 : (k : Int) < (l.length : Int) := by omega
      cases hp : ((decide (Pl.tval vs l[k].a = Pl.tval vs l[k].b)) == l[k].e) with
      | true =>
        have HP := Lib.hid hp
        have hb := hold_t hp
        clear hp
        go_wp2_with fail
        go_quiet ((go_at_call 80; exact qcall (l1Value_c _ _ vs _ _ (hq.grow (by repeat (first | exact Grow.refl _ | assumption | refine Grow.alloc ?_ _ | refine Grow.drew ?_ | refine Grow.drewN ?_ _ | refine Grow.trans ?_ (by assumption) | refine Grow.below ?_ (by assumption) (by first | exact Nat.le_refl _ | omega)))) H8.out (by assumption) (by assumption))))
        go_wp2
        go_roundw
        case rel => exact ⟨k + 1, by omega, by go_num, all_step hlt HV.out HP.out, (by repeat (first | exact Grow.refl _ | assumption | refine Grow.alloc ?_ _ | refine Grow.drew ?_ | refine Grow.drewN ?_ _ | refine Grow.trans ?_ (by assumption) | refine Grow.below ?_ (by assumption) (by first | exact Nat.le_refl _ | omega)))⟩
        case measure => simp [intOf]; omega
      | false =>
        have H := Lib.hid (show Pl.holdB l vs = false by rw [hold_def, all_false hlt hp])
        have hb := hold_f hp
        clear hp
        go_wp2_with fail
        go_quiet ((go_at_call 80; exact qcall (l1Value_c _ _ vs _ _ (hq.grow (by repeat (first | exact Grow.refl _ | assumption | refine Grow.alloc ?_ _ | refine Grow.drew ?_ | refine Grow.drewN ?_ _ | refine Grow.trans ?_ (by assumption) | refine Grow.below ?_ (by assumption) (by first | exact Nat.le_refl _ | omega)))) H8.out (by assumption) (by assumption))))
        go_wp2
        go_ret
        exact ⟨by rw [H.out]; rfl, (by repeat (first | exact Grow.refl _ | assumption | refine Grow.alloc ?_ _ | refine Grow.drew ?_ | refine Grow.drewN ?_ _ | refine Grow.trans ?_ (by assumption) | refine Grow.below ?_ (by assumption) (by first | exact Nat.le_refl _ | omega)))⟩
    · have H := Lib.hid (show Pl.holdB l vs = true by rw [hold_def, all_done hlt HV.out])
      go_wp2
      go_ret
      exact ⟨by rw [H.out]; rfl, (by repeat (first | exact Grow.refl _ | assumption | refine Grow.alloc ?_ _ | refine Grow.drew ?_ | refine Grow.drewN ?_ _ | refine Grow.trans ?_ (by assumption) | refine Grow.below ?_ (by assumption) (by first | exact Nat.le_refl _ | omega)))⟩

end Go.Proofs.Ytlcijjbeikoppaa
