/- Sets of terms as bits of a number: what the program's operations do to them. Plain arithmetic. No conditions. -/
import Derived.Test.YtljamkcapfdgcaaValid
import Derived.Laws.BitsLemmas
namespace Go.Proofs.Ytljamkcapfdgcaa
open Go.RowKit

/-- The number n holds the bits of p below 9. -/
def TS (n : Nat) (p : Nat → Bool) : Prop := n < 512 ∧ ∀ t, t ≤ 8 → n.testBit t = p t
theorem TS.zero : TS 0 fun _ => false := ⟨by omega, fun t _ => by simp⟩
theorem TS.add {n : Nat} {p : Nat → Bool} (h : TS n p) {t : Nat} (ht : t ≤ 8) : TS (n ||| 2 ^ t) fun x => p x || decide (x = t) := by
  have h2 : (2 : Nat) ^ t < 2 ^ 9 := Nat.pow_lt_pow_right (by omega) (by omega)
  refine ⟨Nat.or_lt_two_pow (n := 9) h.1 h2, fun x hx => ?_⟩
  rw [Nat.testBit_or, h.2 x hx, Nat.testBit_two_pow]
  congr 1
  by_cases e : t = x
  · subst e; simp
  · simp [e, Ne.symm e]
theorem TS.has {n : Nat} {p : Nat → Bool} (h : TS n p) {t : Nat} (ht : t ≤ 8) : ((n / 2 ^ t % 2 == 1) = p t) := by
  rw [← h.2 t ht, Nat.testBit_eq_decide_div_mod_eq]
  rfl

theorem wraps_u16 (n : Int) (h₀ : 0 ≤ n) (h₁ : n < 2 ^ 16) : IntKind.u16.wrap n = n := by
  simp [IntKind.wrap, IntKind.bits, IntKind.signed]; omega
theorem bits_u16 (a b : Nat) (ha : a < 2 ^ 16) (hb : b < 2 ^ 16) : bits .and .u16 (a : Int) (b : Int) = ((a &&& b : Nat) : Int) ∧ bits .or .u16 (a : Int) (b : Int) = ((a ||| b : Nat) : Int) :=
  bits_nat .u16 16 (by decide) wraps_u16 a b ha hb

theorem with_c (n : Nat) (p : Nat → Bool) (t : Nat) (w : World) (h : TS n p) (ht : t ≤ 8) :
    Calls Try.prog 61 #[.int .u16 (n : Int), .int .i64 (t : Int)] w fun e w' => e = .returned (.int .u16 ((n ||| 2 ^ t : Nat) : Int)) ∧ w = w' := by
  have h2 : (2 : Nat) ^ t < 2 ^ 9 := Nat.pow_lt_pow_right (by omega) (by omega)
  have hn := h.1
  have e1 : IntKind.u16.wrap ((2 : Int) ^ t) = ((2 ^ t : Nat) : Int) := by
    rw [show ((2 : Int) ^ t) = ((2 ^ t : Nat) : Int) by simp]
    exact wraps_u16 _ (Int.natCast_nonneg _) (by exact_mod_cast (show 2 ^ t < 2 ^ 16 by omega))
  have e2 := (bits_u16 n (2 ^ t) (by omega) (by omega)).2
  have E := Lib.hid (show bits BinOp.or IntKind.u16 (n : Int) (IntKind.u16.wrap (2 ^ t)) = ((n ||| 2 ^ t : Nat) : Int) by rw [e1, e2])
  clear e1 e2 h2
  go_enter Try.func61, Try.ntmps61
  go_wp2_with (go_at_call 49; refine (isTerm_c _ _).mono ?_; rintro e w' ⟨rfl, rfl⟩; rw [show Pl.tmB (t : Int) = true from (Pl.tmB_iff _).2 (by omega)])
  go_ret
  exact ⟨by rw [← E.out]; rfl, rfl⟩

theorem has_c (n : Nat) (p : Nat → Bool) (t : Nat) (w : World) (h : TS n p) (ht : t ≤ 8) :
    Calls Try.prog 62 #[.int .u16 (n : Int), .int .i64 (t : Int)] w fun e w' => e = .returned (.bool (p t)) ∧ w = w' := by
  have hn := h.1
  have hd : n / 2 ^ t < 2 ^ 16 := Nat.lt_of_le_of_lt (Nat.div_le_self _ _) (by omega)
  have e2 := (bits_u16 (n / 2 ^ t) 1 hd (by omega)).1
  have e1 : ((n : Int) / 2 ^ t) = ((n / 2 ^ t : Nat) : Int) := by simp
  have e3 := h.has ht
  have E := Lib.hid (show (bits BinOp.and IntKind.u16 ((n : Int) / 2 ^ t) 1 == 1) = p t by
    rw [e1, show ((1 : Int)) = ((1 : Nat) : Int) from rfl, e2, Nat.and_one_is_mod, ← e3]
    rw [Bool.eq_iff_iff]; simp only [beq_iff_eq]; omega)
  clear e1 e2 e3 hd
  go_enter Try.func62, Try.ntmps62
  go_wp2_with (go_at_call 49; refine (isTerm_c _ _).mono ?_; rintro e w' ⟨rfl, rfl⟩; rw [show Pl.tmB (t : Int) = true from (Pl.tmB_iff _).2 (by omega)])
  go_ret
  exact ⟨by rw [← E.out]; rfl, rfl⟩

end Go.Proofs.Ytljamkcapfdgcaa
