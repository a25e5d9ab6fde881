/- Contracts of the tests of a term and of a fact, in the program and in the reference, and of the laws' own conversion of a fact. No conditions. -/
import Derived.Test.YtifdefkkofngoaaDoorMem
namespace Go.Proofs.YtifdefkkofngoaaDoor
open Go.RowKit



theorem isTerm_c (t : Int) (w : World) : Calls Tryd.prog 86 #[.int .i64 t] w fun e w' => e = .returned (.bool (Pl.tmB t)) ∧ w = w' := by
  by_cases h1 : 0 ≤ t
  · by_cases h2 : t ≤ 8
    · have H := Lib.hid ((Pl.tmB_iff t).2 ⟨h1, h2⟩)
      go_enter Tryd.func86, Tryd.ntmps86
      go_wp2
      go_ret
      exact ⟨by rw [H.out]; rfl, rfl⟩
    · have H := Lib.hid (Bool.eq_false_iff.2 fun h => h2 ((Pl.tmB_iff t).1 h).2)
      go_enter Tryd.func86, Tryd.ntmps86
      go_wp2
      go_ret
      exact ⟨by rw [H.out]; rfl, rfl⟩
  · have H := Lib.hid (Bool.eq_false_iff.2 fun h => h1 ((Pl.tmB_iff t).1 h).1)
    go_enter Tryd.func86, Tryd.ntmps86
    go_wp2
    go_ret
    exact ⟨by rw [H.out]; rfl, rfl⟩

theorem l1Is_c (t : Int) (w : World) : Calls Tryd.prog 85 #[.int .i64 t] w fun e w' => e = .returned (.bool (Pl.tmB t)) ∧ w = w' := by
  by_cases h1 : 0 ≤ t
  · by_cases h2 : t ≤ 8
    · have H := Lib.hid ((Pl.tmB_iff t).2 ⟨h1, h2⟩)
      go_enter Tryd.func85, Tryd.ntmps85
      go_wp2
      go_ret
      exact ⟨by rw [H.out]; rfl, rfl⟩
    · have H := Lib.hid (Bool.eq_false_iff.2 fun h => h2 ((Pl.tmB_iff t).1 h).2)
      go_enter Tryd.func85, Tryd.ntmps85
      go_wp2
      go_ret
      exact ⟨by rw [H.out]; rfl, rfl⟩
  · have H := Lib.hid (Bool.eq_false_iff.2 fun h => h1 ((Pl.tmB_iff t).1 h).1)
    go_enter Tryd.func85, Tryd.ntmps85
    go_wp2
    go_ret
    exact ⟨by rw [H.out]; rfl, rfl⟩

theorem FactValid_c (f : Pl.Fct) (w : World) : Calls Tryd.prog 104 #[fval f] w fun e w' => e = .returned (.bool (Pl.fv f)) ∧ Grow w w' := by
  obtain ⟨x, a, b⟩ := f
  unfold Pl.fv
  cases ha : Pl.tmB a <;> cases hb : Pl.tmB b
  all_goals
    go_enter Tryd.func104, Tryd.ntmps104
    go_wp2_with (go_at_call 86; refine (isTerm_c _ _).mono ?_; rintro e w' ⟨rfl, rfl⟩)
    go_ret
    exact ⟨rfl, (by repeat (first | exact Grow.refl _ | assumption | refine Grow.alloc ?_ _ | refine Grow.drew ?_ | refine Grow.drewN ?_ _ | refine Grow.trans ?_ (by assumption) | refine Grow.below ?_ (by assumption) (by first | exact Nat.le_refl _ | omega)))⟩

theorem sFactValid_c (f : Pl.Fct) (w : World) : Calls Tryd.prog 106 #[fval f] w fun e w' => e = .returned (.bool (Pl.fv f)) ∧ Grow w w' := by
  obtain ⟨x, a, b⟩ := f
  unfold Pl.fv
  cases ha : Pl.tmB a <;> cases hb : Pl.tmB b
  all_goals
    go_enter Tryd.func106, Tryd.ntmps106
    go_wp2_with (go_at_call 85; refine (l1Is_c _ _).mono ?_; rintro e w' ⟨rfl, rfl⟩)
    go_ret
    exact ⟨rfl, (by repeat (first | exact Grow.refl _ | assumption | refine Grow.alloc ?_ _ | refine Grow.drew ?_ | refine Grow.drewN ?_ _ | refine Grow.trans ?_ (by assumption) | refine Grow.below ?_ (by assumption) (by first | exact Nat.le_refl _ | omega)))⟩

end Go.Proofs.YtifdefkkofngoaaDoor
