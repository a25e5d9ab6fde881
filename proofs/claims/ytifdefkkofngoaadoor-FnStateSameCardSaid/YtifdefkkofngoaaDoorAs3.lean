/- Contracts of the tests of atoms and assertions: validity in the program and in the reference, equality in the reference. Conditions: the lengths are far from Go's bounds. -/
import Derived.Test.YtifdefkkofngoaaDoorAs2
import Derived.Test.YtifdefkkofngoaaDoorFactC
namespace Go.Proofs.YtifdefkkofngoaaDoor
open Go.RowKit
set_option linter.unusedVariables false


theorem atomValid_c (x : Pl.Atm) (w : World) : Calls Tryd.prog 79 #[xval x] w fun e w' => e = .returned (.bool (Pl.av x)) ∧ Grow w w' := by
  obtain ⟨k, a, b⟩ := x
  rw [show Pl.av ⟨k, a, b⟩ = ((decide (k = 1) || decide (k = 2)) && Pl.tmB a && Pl.tmB b) from rfl]
  by_cases h1 : k = 1
  · subst h1
    cases ha : Pl.tmB a <;> cases hb : Pl.tmB b
    all_goals
      go_enter Tryd.func79, Tryd.ntmps79
      go_wp2_with (go_at_call 86; refine (isTerm_c _ _).mono ?_; rintro e w' ⟨rfl, rfl⟩)
      go_ret
      exact ⟨rfl, (by repeat (first | exact Grow.refl _ | assumption | refine Grow.alloc ?_ _ | refine Grow.drew ?_ | refine Grow.drewN ?_ _ | refine Grow.trans ?_ (by assumption) | refine Grow.below ?_ (by assumption) (by first | exact Nat.le_refl _ | omega)))⟩
  · by_cases h2 : k = 2
    · subst h2
      cases ha : Pl.tmB a <;> cases hb : Pl.tmB b
      all_goals
        go_enter Tryd.func79, Tryd.ntmps79
        go_wp2_with (go_at_call 86; refine (isTerm_c _ _).mono ?_; rintro e w' ⟨rfl, rfl⟩)
        go_ret
        exact ⟨rfl, (by repeat (first | exact Grow.refl _ | assumption | refine Grow.alloc ?_ _ | refine Grow.drew ?_ | refine Grow.drewN ?_ _ | refine Grow.trans ?_ (by assumption) | refine Grow.below ?_ (by assumption) (by first | exact Nat.le_refl _ | omega)))⟩
    · rw [decide_eq_false h1, decide_eq_false h2]
      have b1 : (k == 1) = false := by simpa using h1
      have b2 : (k == 2) = false := by simpa using h2
      go_enter Tryd.func79, Tryd.ntmps79
      go_wp2_with fail
      go_ret
      exact ⟨rfl, (by repeat (first | exact Grow.refl _ | assumption | refine Grow.alloc ?_ _ | refine Grow.drew ?_ | refine Grow.drewN ?_ _ | refine Grow.trans ?_ (by assumption) | refine Grow.below ?_ (by assumption) (by first | exact Nat.le_refl _ | omega)))⟩

theorem l3Atom_c (x : Pl.Atm) (w : World) : Calls Tryd.prog 80 #[xval x] w fun e w' => e = .returned (.bool (Pl.av x)) ∧ Grow w w' := by
  obtain ⟨k, a, b⟩ := x
  rw [show Pl.av ⟨k, a, b⟩ = ((decide (k = 1) || decide (k = 2)) && Pl.tmB a && Pl.tmB b) from rfl]
  by_cases h1 : k = 1
  · subst h1
    cases ha : Pl.tmB a <;> cases hb : Pl.tmB b
    all_goals
      go_enter Tryd.func80, Tryd.ntmps80
      go_wp2_with (go_at_call 85; refine (l1Is_c _ _).mono ?_; rintro e w' ⟨rfl, rfl⟩)
      go_ret
      exact ⟨rfl, (by repeat (first | exact Grow.refl _ | assumption | refine Grow.alloc ?_ _ | refine Grow.drew ?_ | refine Grow.drewN ?_ _ | refine Grow.trans ?_ (by assumption) | refine Grow.below ?_ (by assumption) (by first | exact Nat.le_refl _ | omega)))⟩
  · by_cases h2 : k = 2
    · subst h2
      cases ha : Pl.tmB a <;> cases hb : Pl.tmB b
      all_goals
        go_enter Tryd.func80, Tryd.ntmps80
        go_wp2_with (go_at_call 85; refine (l1Is_c _ _).mono ?_; rintro e w' ⟨rfl, rfl⟩)
        go_ret
        exact ⟨rfl, (by repeat (first | exact Grow.refl _ | assumption | refine Grow.alloc ?_ _ | refine Grow.drew ?_ | refine Grow.drewN ?_ _ | refine Grow.trans ?_ (by assumption) | refine Grow.below ?_ (by assumption) (by first | exact Nat.le_refl _ | omega)))⟩
    · rw [decide_eq_false h1, decide_eq_false h2]
      have b1 : (k == 1) = false := by simpa using h1
      have b2 : (k == 2) = false := by simpa using h2
      go_enter Tryd.func80, Tryd.ntmps80
      go_wp2_with fail
      go_ret
      exact ⟨rfl, (by repeat (first | exact Grow.refl _ | assumption | refine Grow.alloc ?_ _ | refine Grow.drew ?_ | refine Grow.drewN ?_ _ | refine Grow.trans ?_ (by assumption) | refine Grow.below ?_ (by assumption) (by first | exact Nat.le_refl _ | omega)))⟩

theorem asv_f {f : List Pl.Fct} {a : List Pl.Atm} (h : Pl.fsv f = false) : Pl.asv ⟨f, a⟩ = false := by
  rw [Bool.eq_false_iff]; intro e; have := ((Pl.asv_iff _).1 e).1; rw [h] at this; cases this
theorem asv_n {f : List Pl.Fct} {a : List Pl.Atm} (h : 6 < a.length) : Pl.asv ⟨f, a⟩ = false := by
  rw [Bool.eq_false_iff]; intro e; have := ((Pl.asv_iff _).1 e).2.1; simp only at this; omega
theorem asv_a {f : List Pl.Fct} {a : List Pl.Atm} {i : Nat} (hi : i < a.length) (h : Pl.av a[i] = false) : Pl.asv ⟨f, a⟩ = false := by
  rw [Bool.eq_false_iff]; intro e; have := ((Pl.asv_iff _).1 e).2.2 _ (List.getElem_mem hi); rw [h] at this; cases this

set_option maxHeartbeats 800000 in
theorem AssertionValid_c (A B : Option Addr) (c d : Nat) (s : Pl.Asr) (w : World) (hS : Asrs w A B s) (h1 : s.f.length ≤ 4194304) (h2 : s.a.length ≤ 4194304) :
    Calls Tryd.prog 33 #[asval A B c d s] w fun e w' => e = .returned (.bool (Pl.asv s)) ∧ Grow w w' := by
  obtain ⟨f, a⟩ := s
  have IA : Facts w A f := hS.v
  have IB : Atoms w B a := hS.h
  replace h1 : f.length ≤ 4194304 := h1
  replace h2 : a.length ≤ 4194304 := h2
  show Calls Tryd.prog 33 #[.agg #[.slice A f.length c, .slice B a.length d]] w _
  clear hS
  have y0 := Box2.new w 46 (.slice A f.length c) (.slice B a.length d)
  cases hf : Pl.fsv f with
  | false =>
    have HF := Lib.hid hf
    have HX := Lib.hid (asv_f (a := a) hf)
    clear hf
    go_enter Tryd.func33, Tryd.ntmps33
    go_wp2_with fail
    refine (FactsValid_c A c f _ (IA.grow (by repeat (first | exact Grow.refl _ | assumption | refine Grow.alloc ?_ _ | refine Grow.drew ?_ | refine Grow.drewN ?_ _ | refine Grow.trans ?_ (by assumption) | refine Grow.below ?_ (by assumption) (by first | exact Nat.le_refl _ | omega)))) (by omega)).mono ?_
    rintro e w1 ⟨rfl, g1⟩
    rw [HF.out]
    go_wp2_with fail
    go_ret
    exact ⟨by rw [HX.out]; rfl, (by repeat (first | exact Grow.refl _ | assumption | refine Grow.alloc ?_ _ | refine Grow.drew ?_ | refine Grow.drewN ?_ _ | refine Grow.trans ?_ (by assumption) | refine Grow.below ?_ (by assumption) (by first | exact Nat.le_refl _ | omega)))⟩
  | true =>
    have HF := Lib.hid hf
    clear hf
    go_enter Tryd.func33, Tryd.ntmps33
    go_wp2_with fail
    refine (FactsValid_c A c f _ (IA.grow (by repeat (first | exact Grow.refl _ | assumption | refine Grow.alloc ?_ _ | refine Grow.drew ?_ | refine Grow.drewN ?_ _ | refine Grow.trans ?_ (by assumption) | refine Grow.below ?_ (by assumption) (by first | exact Nat.le_refl _ | omega)))) (by omega)).mono ?_
    rintro e w1 ⟨rfl, g1⟩
    have y1 := y0.grow g1
    have G1 : Grow w w1 := (by repeat (first | exact Grow.refl _ | assumption | refine Grow.alloc ?_ _ | refine Grow.drew ?_ | refine Grow.drewN ?_ _ | refine Grow.trans ?_ (by assumption) | refine Grow.below ?_ (by assumption) (by first | exact Nat.le_refl _ | omega)))
    obtain ⟨k0, k1, _, _⟩ := y1.facts
    rw [HF.out]
    clear g1 y0
    by_cases h6 : 6 < a.length
    · have HX := Lib.hid (asv_n (f := f) h6)
      have b6 : (6 : Int) < (a.length : Int) := by omega
      go_wp2_with fail
      go_ret
      exact ⟨by rw [HX.out]; rfl, (by repeat (first | exact Grow.refl _ | assumption | refine Grow.alloc ?_ _ | refine Grow.drew ?_ | refine Grow.drewN ?_ _ | refine Grow.trans ?_ (by assumption) | refine Grow.below ?_ (by assumption) (by first | exact Nat.le_refl _ | omega)))⟩
    · have b6 : ¬ (6 : Int) < (a.length : Int) := by omega
      have JB := IB.grow G1
      go_wp2_with fail
      go_loopw [18] (fun i wr => ∃ k : Nat, k ≤ a.length ∧ i = .int .i64 k ∧ (∀ n ∈ a.take k, Pl.av n = true) ∧ Grow w1 wr) (fun i _ => a.length - (intOf i).toNat)
      case atStart => exact ⟨0, by omega, rfl, by simp, Grow.refl _⟩
      case round =>
        obtain ⟨k, hk, rfl, hall, hg⟩ := hrel
        have HA := Lib.hid hall
        clear hall
        by_cases hlt : k < a.length
        · obtain ⟨b, off, rfl, c0, c1, c2⟩ := (JB.grow hg).at_ hlt
          cases hp : Pl.av a[k] with
          | true =>
            have HP := Lib.hid hp
            clear hp
            go_wp2_with (go_at_call 79; refine (atomValid_c a[k] _).mono ?_; rintro e w' ⟨rfl, hg1⟩; rw [HP.out])
            go_roundw
            case rel => exact ⟨k + 1, by omega, by go_num, all_step hlt HA.out HP.out, (by repeat (first | exact Grow.refl _ | assumption | refine Grow.alloc ?_ _ | refine Grow.drew ?_ | refine Grow.drewN ?_ _ | refine Grow.trans ?_ (by assumption) | refine Grow.below ?_ (by assumption) (by first | exact Nat.le_refl _ | omega)))⟩
            case measure => simp [intOf]; omega
          | false =>
            have HP := Lib.hid hp
            clear hp
            have HX := Lib.hid (asv_a (f := f) hlt HP.out)
            go_wp2_with (go_at_call 79; refine (atomValid_c a[k] _).mono ?_; rintro e w' ⟨rfl, hg1⟩; rw [HP.out])
            go_ret
            exact ⟨by rw [HX.out]; rfl, G1.trans (by repeat (first | exact Grow.refl _ | assumption | refine Grow.alloc ?_ _ | refine Grow.drew ?_ | refine Grow.drewN ?_ _ | refine Grow.trans ?_ (by assumption) | refine Grow.below ?_ (by assumption) (by first | exact Nat.le_refl _ | omega)))⟩
        · have HX := Lib.hid (show Pl.asv ⟨f, a⟩ = true from (Pl.asv_iff _).2 ⟨HF.out, by show a.length ≤ 6; omega, by rw [take_eq_all hlt] at HA; exact HA.out⟩)
          go_wp2
          go_ret
          exact ⟨by rw [HX.out]; rfl, G1.trans hg⟩

set_option maxHeartbeats 800000 in
theorem sAssertionValid_c (A B : Option Addr) (c d : Nat) (s : Pl.Asr) (w : World) (hS : Asrs w A B s) (h1 : s.f.length ≤ 4194304) (h2 : s.a.length ≤ 4194304) :
    Calls Tryd.prog 34 #[asval A B c d s] w fun e w' => e = .returned (.bool (Pl.asv s)) ∧ Grow w w' := by
  obtain ⟨f, a⟩ := s
  have IA : Facts w A f := hS.v
  have IB : Atoms w B a := hS.h
  replace h1 : f.length ≤ 4194304 := h1
  replace h2 : a.length ≤ 4194304 := h2
  show Calls Tryd.prog 34 #[.agg #[.slice A f.length c, .slice B a.length d]] w _
  clear hS
  go_enter Tryd.func34, Tryd.ntmps34
  go_wp2
  go_loopw [3] (fun i wr => ∃ k : Nat, k ≤ a.length ∧ i = .int .i64 k ∧ (∀ n ∈ a.take k, Pl.av n = true) ∧ Grow (w.alloc (.cells #[.slice A f.length c, .slice B a.length d] 46)) wr) (fun i _ => a.length - (intOf i).toNat)
  case atStart => exact ⟨0, by omega, rfl, by simp, Grow.refl _⟩
  case round =>
    obtain ⟨k, hk, rfl, hall, hg⟩ := hrel
    have HA := Lib.hid hall
    clear hall
    have hg0 : Grow w wr := (Grow.alloc (Grow.refl w) _).trans hg
    obtain ⟨k0, k1, _, _⟩ := ((Box2.new w 46 (.slice A f.length c) (.slice B a.length d)).grow hg).facts
    by_cases hlt : k < a.length
    · obtain ⟨b, off, rfl, c0, c1, c2⟩ := (IB.grow hg0).at_ hlt
      have y0 := Lib.hid hg0
      clear hg0
      cases hp : Pl.av a[k] with
      | true =>
        have HP := Lib.hid hp
        clear hp
        go_wp2_with (go_at_call 80; refine (l3Atom_c a[k] _).mono ?_; rintro e w' ⟨rfl, hg1⟩; rw [HP.out])
        go_roundw
        case rel => exact ⟨k + 1, by omega, by go_num, all_step hlt HA.out HP.out, (by repeat (first | exact Grow.refl _ | assumption | refine Grow.alloc ?_ _ | refine Grow.drew ?_ | refine Grow.drewN ?_ _ | refine Grow.trans ?_ (by assumption) | refine Grow.below ?_ (by assumption) (by first | exact Nat.le_refl _ | omega)))⟩
        case measure => simp [intOf]; omega
      | false =>
        have HP := Lib.hid hp
        clear hp
        have HX := Lib.hid (asv_a (f := f) hlt HP.out)
        go_wp2_with (go_at_call 80; refine (l3Atom_c a[k] _).mono ?_; rintro e w' ⟨rfl, hg1⟩; rw [HP.out])
        go_ret
        exact ⟨by rw [HX.out]; rfl, y0.out.trans hg1⟩
    · have HA2 := Lib.hid (show ∀ n ∈ a, Pl.av n = true by rw [take_eq_all hlt] at HA; exact HA.out)
      cases hf : Pl.fsv f with
      | false =>
        have HF := Lib.hid hf
        have HX := Lib.hid (asv_f (a := a) hf)
        clear hf
        go_wp2_with fail
        refine (sFactsValid_c A c f _ (IA.grow hg0) (by omega)).mono ?_
        rintro e w1 ⟨rfl, g1⟩
        rw [HF.out]
        go_wp2_with fail
        go_ret
        exact ⟨by rw [HX.out]; rfl, hg0.trans g1⟩
      | true =>
        have HF := Lib.hid hf
        clear hf
        go_wp2_with fail
        refine (sFactsValid_c A c f _ (IA.grow hg0) (by omega)).mono ?_
        rintro e w1 ⟨rfl, g1⟩
        obtain ⟨j0, j1, _, _⟩ := ((Box2.new w 46 (.slice A f.length c) (.slice B a.length d)).grow (hg.trans g1)).facts
        rw [HF.out]
        by_cases h6 : a.length ≤ 6
        · have HX := Lib.hid (show Pl.asv ⟨f, a⟩ = true from (Pl.asv_iff _).2 ⟨HF.out, h6, HA2.out⟩)
          have b6 : (a.length : Int) ≤ (6 : Int) := by omega
          go_wp2_with fail
          go_ret
          exact ⟨by rw [HX.out]; rfl, hg0.trans g1⟩
        · have HX := Lib.hid (asv_n (f := f) (show 6 < a.length by omega))
          have b6 : ¬ (a.length : Int) ≤ (6 : Int) := by omega
          go_wp2_with fail
          go_ret
          exact ⟨by rw [HX.out]; exact congrArg (fun b => Ending.returned (.bool b)) (decide_eq_false (by omega)), hg0.trans g1⟩

theorem same_len {f f' : List Pl.Fct} {a a' : List Pl.Atm} (h : f.length ≠ f'.length) : decide ((⟨f, a⟩ : Pl.Asr) = ⟨f', a'⟩) = false := decide_eq_false fun e => h (by injection e with e _; rw [e])
theorem same_len2 {f f' : List Pl.Fct} {a a' : List Pl.Atm} (h : a.length ≠ a'.length) : decide ((⟨f, a⟩ : Pl.Asr) = ⟨f', a'⟩) = false := decide_eq_false fun e => h (by injection e with _ e; rw [e])
theorem same_f {f f' : List Pl.Fct} {a a' : List Pl.Atm} (h : f ≠ f') : decide ((⟨f, a⟩ : Pl.Asr) = ⟨f', a'⟩) = false := decide_eq_false fun e => h (by injection e)
theorem same_a {f f' : List Pl.Fct} {a a' : List Pl.Atm} (h : a ≠ a') : decide ((⟨f, a⟩ : Pl.Asr) = ⟨f', a'⟩) = false := decide_eq_false fun e => h (by injection e)
theorem fct_ways {x y : Pl.Fct} (h : x ≠ y) : (x.e == y.e) = false ∨ (x.e = y.e ∧ (x.a == y.a) = false) ∨ (x.e = y.e ∧ x.a = y.a ∧ (x.b == y.b) = false) := by
  by_cases a : x.e = y.e
  · by_cases b : x.a = y.a
    · by_cases c : x.b = y.b
      · exact absurd (by cases x; cases y; simp only at a b c; subst a b c; rfl) h
      · exact .inr (.inr ⟨a, b, by simpa using c⟩)
    · exact .inr (.inl ⟨a, by simpa using b⟩)
  · exact .inl (by simpa using a)
theorem atm_ways {x y : Pl.Atm} (h : x ≠ y) : (x.k == y.k) = false ∨ (x.k = y.k ∧ (x.a == y.a) = false) ∨ (x.k = y.k ∧ x.a = y.a ∧ (x.b == y.b) = false) := by
  by_cases a : x.k = y.k
  · by_cases b : x.a = y.a
    · by_cases c : x.b = y.b
      · exact absurd (by cases x; cases y; simp only at a b c; subst a b c; rfl) h
      · exact .inr (.inr ⟨a, b, by simpa using c⟩)
    · exact .inr (.inl ⟨a, by simpa using b⟩)
  · exact .inl (by simpa using a)

end Go.Proofs.YtifdefkkofngoaaDoor
