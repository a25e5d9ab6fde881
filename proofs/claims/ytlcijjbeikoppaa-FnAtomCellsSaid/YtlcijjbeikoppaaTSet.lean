/- Sets of terms as bits of a number: what the program's operations do to them. Plain arithmetic. No conditions. -/
import Derived.Test.YtlcijjbeikoppaaValid
import Derived.Laws.BitsLemmas
namespace Go.Proofs.Ytlcijjbeikoppaa
open Go.RowKit

/-- The number n holds the bits of p below 9. -/
def TS (n : Nat) (p : Nat → Bool) : Prop := n < 512 ∧ ∀ t, t ≤ 8 → n.testBit t = p t
theorem TS.zero : TS 0 fun _ => false := ⟨by omega, fun t _ => by simp⟩
theorem TS.add {n : Nat} {p : Nat → Bool} (h : TS n p) {t : Nat} (ht : t ≤ 8) : TS (n ||| 2 ^ t) fun x => p x || decide (x = t) := by
  have h2 : (2 : Nat) ^ t < 2 ^ 9 := Nat.pow_lt_pow_right (by omega) (by omega)
  refine ⟨Nat.or_lt_two_pow (n := 9) h.1 h2, fun x hx => ?_⟩
  rw [Nat.testBit_or, h.2 x hx, Nat.testBit_two_pow]
  congr 1
  by_cases e : t = x
  · subst e; simp
  · simp [e, Ne.symm e]
theorem TS.has {n : Nat} {p : Nat → Bool} (h : TS n p) {t : Nat} (ht : t ≤ 8) : ((n / 2 ^ t % 2 == 1) = p t) := by
  rw [← h.2 t ht, Nat.testBit_eq_decide_div_mod_eq]
  rfl

theorem wraps_u16 (n : Int) (h₀ : 0 ≤ n) (h₁ : n < 2 ^ 16) : IntKind.u16.wrap n = n := by
  simp [IntKind.wrap, IntKind.bits, IntKind.signed]; omega
theorem bits_u16 (a b : Nat) (ha : a < 2 ^ 16) (hb : b < 2 ^ 16) : bits .and .u16 (a : Int) (b : Int) = ((a &&& b : Nat) : Int) ∧ bits .or .u16 (a : Int) (b : Int) = ((a ||| b : Nat) : Int) :=
  bits_nat .u16 16 (by decide) wraps_u16 a b ha hb

end Go.Proofs.Ytlcijjbeikoppaa
