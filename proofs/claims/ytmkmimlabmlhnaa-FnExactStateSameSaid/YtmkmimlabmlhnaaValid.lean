/- Contracts of the tests of a term and of a fact, in the program and in the reference, and of the laws' own conversion of a fact. No conditions. -/
import Derived.Test.YtmkmimlabmlhnaaMem
namespace Go.Proofs.Ytmkmimlabmlhnaa
open Go.RowKit



theorem isTerm_c (t : Int) (w : World) : Calls Try.prog 52 #[.int .i64 t] w fun e w' => e = .returned (.bool (Pl.tmB t)) ∧ w = w' := by
  by_cases h1 : 0 ≤ t
  · by_cases h2 : t ≤ 8
    · have H := Lib.hid ((Pl.tmB_iff t).2 ⟨h1, h2⟩)
      go_enter Try.func52, Try.ntmps52
      go_wp2
      go_ret
      exact ⟨by rw [H.out]; rfl, rfl⟩
    · have H := Lib.hid (Bool.eq_false_iff.2 fun h => h2 ((Pl.tmB_iff t).1 h).2)
      go_enter Try.func52, Try.ntmps52
      go_wp2
      go_ret
      exact ⟨by rw [H.out]; rfl, rfl⟩
  · have H := Lib.hid (Bool.eq_false_iff.2 fun h => h1 ((Pl.tmB_iff t).1 h).1)
    go_enter Try.func52, Try.ntmps52
    go_wp2
    go_ret
    exact ⟨by rw [H.out]; rfl, rfl⟩

theorem l1Is_c (t : Int) (w : World) : Calls Try.prog 50 #[.int .i64 t] w fun e w' => e = .returned (.bool (Pl.tmB t)) ∧ w = w' := by
  by_cases h1 : 0 ≤ t
  · by_cases h2 : t ≤ 8
    · have H := Lib.hid ((Pl.tmB_iff t).2 ⟨h1, h2⟩)
      go_enter Try.func50, Try.ntmps50
      go_wp2
      go_ret
      exact ⟨by rw [H.out]; rfl, rfl⟩
    · have H := Lib.hid (Bool.eq_false_iff.2 fun h => h2 ((Pl.tmB_iff t).1 h).2)
      go_enter Try.func50, Try.ntmps50
      go_wp2
      go_ret
      exact ⟨by rw [H.out]; rfl, rfl⟩
  · have H := Lib.hid (Bool.eq_false_iff.2 fun h => h1 ((Pl.tmB_iff t).1 h).1)
    go_enter Try.func50, Try.ntmps50
    go_wp2
    go_ret
    exact ⟨by rw [H.out]; rfl, rfl⟩

end Go.Proofs.Ytmkmimlabmlhnaa
