/- Contracts of the tests of a term and of a fact, in the program and in the reference, and of the laws' own conversion of a fact. No conditions. -/
import Derived.Test.YtinnopkeoohgeaaDoorMem
namespace Go.Proofs.YtinnopkeoohgeaaDoor
open Go.RowKit



theorem isTerm_c (t : Int) (w : World) : Calls Tryd.prog 61 #[.int .i64 t] w fun e w' => e = .returned (.bool (Pl.tmB t)) ∧ w = w' := by
  by_cases h1 : 0 ≤ t
  · by_cases h2 : t ≤ 8
    · have H := Lib.hid ((Pl.tmB_iff t).2 ⟨h1, h2⟩)
      go_enter Tryd.func61, Tryd.ntmps61
      go_wp2
      go_ret
      exact ⟨by rw [H.out]; rfl, rfl⟩
    · have H := Lib.hid (Bool.eq_false_iff.2 fun h => h2 ((Pl.tmB_iff t).1 h).2)
      go_enter Tryd.func61, Tryd.ntmps61
      go_wp2
      go_ret
      exact ⟨by rw [H.out]; rfl, rfl⟩
  · have H := Lib.hid (Bool.eq_false_iff.2 fun h => h1 ((Pl.tmB_iff t).1 h).1)
    go_enter Tryd.func61, Tryd.ntmps61
    go_wp2
    go_ret
    exact ⟨by rw [H.out]; rfl, rfl⟩

theorem l1Is_c (t : Int) (w : World) : Calls Tryd.prog 62 #[.int .i64 t] w fun e w' => e = .returned (.bool (Pl.tmB t)) ∧ w = w' := by
  by_cases h1 : 0 ≤ t
  · by_cases h2 : t ≤ 8
    · have H := Lib.hid ((Pl.tmB_iff t).2 ⟨h1, h2⟩)
      go_enter Tryd.func62, Tryd.ntmps62
      go_wp2
      go_ret
      exact ⟨by rw [H.out]; rfl, rfl⟩
    · have H := Lib.hid (Bool.eq_false_iff.2 fun h => h2 ((Pl.tmB_iff t).1 h).2)
      go_enter Tryd.func62, Tryd.ntmps62
      go_wp2
      go_ret
      exact ⟨by rw [H.out]; rfl, rfl⟩
  · have H := Lib.hid (Bool.eq_false_iff.2 fun h => h1 ((Pl.tmB_iff t).1 h).1)
    go_enter Tryd.func62, Tryd.ntmps62
    go_wp2
    go_ret
    exact ⟨by rw [H.out]; rfl, rfl⟩

theorem FactValid_c (f : Pl.Fct) (w : World) : Calls Tryd.prog 19 #[fval f] w fun e w' => e = .returned (.bool (Pl.fv f)) ∧ Grow w w' := by
  obtain ⟨x, a, b⟩ := f
  unfold Pl.fv
  cases ha : Pl.tmB a <;> cases hb : Pl.tmB b
  all_goals
    go_enter Tryd.func19, Tryd.ntmps19
    go_wp2_with (go_at_call 61; refine (isTerm_c _ _).mono ?_; rintro e w' ⟨rfl, rfl⟩)
    go_ret
    exact ⟨rfl, (by repeat (first | exact Grow.refl _ | assumption | refine Grow.alloc ?_ _ | refine Grow.drew ?_ | refine Grow.drewN ?_ _ | refine Grow.trans ?_ (by assumption) | refine Grow.below ?_ (by assumption) (by first | exact Nat.le_refl _ | omega)))⟩

theorem sFactValid_c (f : Pl.Fct) (w : World) : Calls Tryd.prog 20 #[fval f] w fun e w' => e = .returned (.bool (Pl.fv f)) ∧ Grow w w' := by
  obtain ⟨x, a, b⟩ := f
  unfold Pl.fv
  cases ha : Pl.tmB a <;> cases hb : Pl.tmB b
  all_goals
    go_enter Tryd.func20, Tryd.ntmps20
    go_wp2_with (go_at_call 62; refine (l1Is_c _ _).mono ?_; rintro e w' ⟨rfl, rfl⟩)
    go_ret
    exact ⟨rfl, (by repeat (first | exact Grow.refl _ | assumption | refine Grow.alloc ?_ _ | refine Grow.drew ?_ | refine Grow.drewN ?_ _ | refine Grow.trans ?_ (by assumption) | refine Grow.below ?_ (by assumption) (by first | exact Nat.le_refl _ | omega)))⟩

theorem toFact_c (f : Pl.Fct) (w : World) : Calls Tryd.prog 125 #[fval f] w fun e w' => e = .returned (fval f) ∧ Grow w w' := by
  go_enter Tryd.func125, Tryd.ntmps125
  go_wp2
  exact bodyPost_ret (v := fval f) (by simp [results, Tryd.results125, go_sem]) rfl ⟨rfl, (by repeat (first | exact Grow.refl _ | assumption | refine Grow.alloc ?_ _ | refine Grow.drew ?_ | refine Grow.drewN ?_ _ | refine Grow.trans ?_ (by assumption) | refine Grow.below ?_ (by assumption) (by first | exact Nat.le_refl _ | omega)))⟩

end Go.Proofs.YtinnopkeoohgeaaDoor
