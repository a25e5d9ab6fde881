/- Contracts of the tests of a term and of a fact, in the program and in the reference, and of the laws' own conversion of a fact. No conditions. -/
import Derived.Test.YtlcijjbeikoppaaMem
namespace Go.Proofs.Ytlcijjbeikoppaa
open Go.RowKit



theorem isTerm_c (t : Int) (w : World) : Calls Try.prog 34 #[.int .i64 t] w fun e w' => e = .returned (.bool (Pl.tmB t)) ∧ w = w' := by
  by_cases h1 : 0 ≤ t
  · by_cases h2 : t ≤ 8
    · have H := Lib.hid ((Pl.tmB_iff t).2 ⟨h1, h2⟩)
      go_enter Try.func34, Try.ntmps34
      go_wp2
      go_ret
      exact ⟨by rw [H.out]; rfl, rfl⟩
    · have H := Lib.hid (Bool.eq_false_iff.2 fun h => h2 ((Pl.tmB_iff t).1 h).2)
      go_enter Try.func34, Try.ntmps34
      go_wp2
      go_ret
      exact ⟨by rw [H.out]; rfl, rfl⟩
  · have H := Lib.hid (Bool.eq_false_iff.2 fun h => h1 ((Pl.tmB_iff t).1 h).1)
    go_enter Try.func34, Try.ntmps34
    go_wp2
    go_ret
    exact ⟨by rw [H.out]; rfl, rfl⟩

theorem l1Is_c (t : Int) (w : World) : Calls Try.prog 29 #[.int .i64 t] w fun e w' => e = .returned (.bool (Pl.tmB t)) ∧ w = w' := by
  by_cases h1 : 0 ≤ t
  · by_cases h2 : t ≤ 8
    · have H := Lib.hid ((Pl.tmB_iff t).2 ⟨h1, h2⟩)
      go_enter Try.func29, Try.ntmps29
      go_wp2
      go_ret
      exact ⟨by rw [H.out]; rfl, rfl⟩
    · have H := Lib.hid (Bool.eq_false_iff.2 fun h => h2 ((Pl.tmB_iff t).1 h).2)
      go_enter Try.func29, Try.ntmps29
      go_wp2
      go_ret
      exact ⟨by rw [H.out]; rfl, rfl⟩
  · have H := Lib.hid (Bool.eq_false_iff.2 fun h => h1 ((Pl.tmB_iff t).1 h).1)
    go_enter Try.func29, Try.ntmps29
    go_wp2
    go_ret
    exact ⟨by rw [H.out]; rfl, rfl⟩

theorem FactValid_c (f : Pl.Fct) (w : World) : Calls Try.prog 95 #[fval f] w fun e w' => e = .returned (.bool (Pl.fv f)) ∧ Grow w w' := by
  obtain ⟨x, a, b⟩ := f
  unfold Pl.fv
  cases ha : Pl.tmB a <;> cases hb : Pl.tmB b
  all_goals
    go_enter Try.func95, Try.ntmps95
    go_wp2_with (go_at_call 34; refine (isTerm_c _ _).mono ?_; rintro e w' ⟨rfl, rfl⟩)
    go_ret
    exact ⟨rfl, (by repeat (first | exact Grow.refl _ | assumption | refine Grow.alloc ?_ _ | refine Grow.drew ?_ | refine Grow.drewN ?_ _ | refine Grow.trans ?_ (by assumption) | refine Grow.below ?_ (by assumption) (by first | exact Nat.le_refl _ | omega)))⟩

theorem sFactValid_c (f : Pl.Fct) (w : World) : Calls Try.prog 94 #[fval f] w fun e w' => e = .returned (.bool (Pl.fv f)) ∧ Grow w w' := by
  obtain ⟨x, a, b⟩ := f
  unfold Pl.fv
  cases ha : Pl.tmB a <;> cases hb : Pl.tmB b
  all_goals
    go_enter Try.func94, Try.ntmps94
    go_wp2_with (go_at_call 29; refine (l1Is_c _ _).mono ?_; rintro e w' ⟨rfl, rfl⟩)
    go_ret
    exact ⟨rfl, (by repeat (first | exact Grow.refl _ | assumption | refine Grow.alloc ?_ _ | refine Grow.drew ?_ | refine Grow.drewN ?_ _ | refine Grow.trans ?_ (by assumption) | refine Grow.below ?_ (by assumption) (by first | exact Nat.le_refl _ | omega)))⟩

theorem toFact_c (f : Pl.Fct) (w : World) : Calls Try.prog 69 #[fval f] w fun e w' => e = .returned (fval f) ∧ Grow w w' := by
  go_enter Try.func69, Try.ntmps69
  go_wp2
  exact bodyPost_ret (v := fval f) (by simp [results, Try.results69, go_sem]) rfl ⟨rfl, (by repeat (first | exact Grow.refl _ | assumption | refine Grow.alloc ?_ _ | refine Grow.drew ?_ | refine Grow.drewN ?_ _ | refine Grow.trans ?_ (by assumption) | refine Grow.below ?_ (by assumption) (by first | exact Nat.le_refl _ | omega)))⟩

end Go.Proofs.Ytlcijjbeikoppaa
