/- The draws of the arguments of the laws of states. No conditions. -/
import Derived.Test.YtlcijjbeikoppaaDrawS
namespace Go.Proofs.Ytlcijjbeikoppaa
open Go.RowKit
set_option linter.unusedVariables false

/-- A state was drawn, and numbers beside it. -/
def Drawn (w : World) (e : Ending) (w' : World) : Prop := ∃ A B c d v h, e = .returned (sval A B c d ⟨v, h⟩) ∧ OSt w' w.heap.size A B c d ⟨v, h⟩ ∧ (v.length ≤ 8 ∧ h.length ≤ 9) ∧ Grow w w'
def Drawn1 (w : World) (e : Ending) (w' : World) : Prop := ∃ A B c d v h, ∃ a : Int, e = .returned (.tuple #[sval A B c d ⟨v, h⟩, .int .i64 a]) ∧ OSt w' w.heap.size A B c d ⟨v, h⟩ ∧ (v.length ≤ 8 ∧ h.length ≤ 9) ∧ (-1 ≤ a ∧ a ≤ 9) ∧ Grow w w'
def Drawn2 (w : World) (e : Ending) (w' : World) : Prop := ∃ A B c d v h, ∃ a b : Int, e = .returned (.tuple #[sval A B c d ⟨v, h⟩, .int .i64 a, .int .i64 b]) ∧ OSt w' w.heap.size A B c d ⟨v, h⟩ ∧ (v.length ≤ 8 ∧ h.length ≤ 9) ∧ (-1 ≤ a ∧ a ≤ 9) ∧ (-1 ≤ b ∧ b ≤ 9) ∧ Grow w w'

theorem slHas_c (A : Option Addr) (c : Nat) (l : List Int) (x : Int) (w : World) (hA : Ints w A l) (hn : l.length ≤ 4194304) :
    Calls Try.prog 21 #[.slice A l.length c, .int .i64 x] w fun e w' => e = .returned (.bool (decide (x ∈ l))) ∧ w = w' := by
  go_enter Try.func21, Try.ntmps21
  go_wp2
  go_loop [5] (fun i => ∃ k : Nat, k ≤ l.length ∧ i = .int .i64 k ∧ Hid (∀ y ∈ l.take k, y ≠ x)) (fun i => l.length - (intOf i).toNat)
  case atStart => exact ⟨0, by omega, rfl, Lib.hid (by simp)⟩
  case round =>
    obtain ⟨k, hk, rfl, HV⟩ := hrel
    by_cases hlt : k < l.length
    · obtain ⟨b, off, rfl, c0⟩ := hA.at_ hlt
      by_cases he : l[k] = x
      · have HX := Lib.hid (show decide (x ∈ l) = true from decide_eq_true (he ▸ List.getElem_mem hlt))
        have hb : (l[k] == x) = true := by simp [he]
        clear he
        go_wp2
        go_ret
        exact ⟨by rw [HX.out]; rfl, rfl⟩
      · have HN := Lib.hid he
        have hb : (l[k] == x) = false := by simp [he]
        clear he
        go_wp2
        go_round
        case rel => exact ⟨k + 1, by omega, by go_num, Lib.hid (al_step hlt HV.out HN.out)⟩
        case measure => simp [intOf]; omega
    · have HX := Lib.hid (show decide (x ∈ l) = false from decide_eq_false (fun hm => al_done hlt HV.out x hm rfl))
      go_wp2
      go_ret
      exact ⟨by rw [HX.out]; rfl, rfl⟩

end Go.Proofs.Ytlcijjbeikoppaa
