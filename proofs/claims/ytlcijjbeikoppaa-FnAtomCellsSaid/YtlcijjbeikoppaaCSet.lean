/- Sets of addresses as bits: what the program's operations do to them; the allocated cells of a state; the cells of an atom; the part that an assertion describes. Conditions: the lengths are far from Go's bounds. -/
import Derived.Test.YtlcijjbeikoppaaTSet
import Derived.Test.YtlcijjbeikoppaaFlg
import Derived.Test.YtlcijjbeikoppaaSt9
import Derived.Test.YtlcijjbeikoppaaAs3
import Derived.Test.YtlcijjbeikoppaaPlainCells
namespace Go.Proofs.Ytlcijjbeikoppaa
open Go.RowKit
set_option linter.unusedVariables false

/-- The number n holds the bits of p below 9, and maybe others. -/
def TB (n : Nat) (p : Int → Bool) : Prop := n < 65536 ∧ ∀ t : Nat, t ≤ 8 → n.testBit t = p (t : Int)
/-- .. and no others. -/
abbrev TI (n : Nat) (p : Int → Bool) : Prop := TS n fun t => p (t : Int)
theorem TS.tb {n : Nat} {p : Int → Bool} (h : TI n p) : TB n p := ⟨by have := h.1; omega, h.2⟩
theorem TB.has {n : Nat} {p : Int → Bool} (h : TB n p) {t : Nat} (ht : t ≤ 8) : ((n / 2 ^ t % 2 == 1) = p (t : Int)) := by
  rw [← h.2 t ht, Nat.testBit_eq_decide_div_mod_eq]
  rfl
theorem TI.zero : TI 0 Pl.noP := ⟨by omega, fun t _ => by simp [Pl.noP]⟩
theorem TI.add {n : Nat} {p : Int → Bool} (h : TI n p) {t : Nat} (ht : t ≤ 8) : TI (n ||| 2 ^ t) fun x => p x || decide (x = (t : Int)) := by
  have := TS.add h ht
  refine ⟨this.1, fun x hx => (this.2 x hx).trans ?_⟩
  show (p (x : Int) || decide (x = t)) = (p (x : Int) || decide ((x : Int) = (t : Int)))
  congr 1
  rw [Bool.eq_iff_iff]; simp; omega
theorem TI.congr {n : Nat} {p q : Int → Bool} (h : TI n p) (e : ∀ t : Nat, t ≤ 8 → p (t : Int) = q (t : Int)) : TI n q := ⟨h.1, fun t ht => (h.2 t ht).trans (e t ht)⟩
theorem TI.eq_iff {n m : Nat} {p q : Int → Bool} (h : TI n p) (k : TI m q) : n = m ↔ ∀ t : Nat, t ≤ 8 → p (t : Int) = q (t : Int) := by
  constructor
  · rintro rfl t ht
    exact (h.2 t ht).symm.trans (k.2 t ht)
  · intro e
    apply Nat.eq_of_testBit_eq
    intro i
    by_cases hi : i ≤ 8
    · exact (h.2 i hi).trans ((e i hi).trans (k.2 i hi).symm)
    · have h2 : (2 : Nat) ^ 9 ≤ 2 ^ i := Nat.pow_le_pow_right (by omega) (by omega)
      rw [Nat.testBit_lt_two_pow (Nat.lt_of_lt_of_le h.1 h2), Nat.testBit_lt_two_pow (Nat.lt_of_lt_of_le k.1 h2)]

theorem chas_c (n : Nat) (p : Int → Bool) (a : Int) (w : World) (h : TB n p) :
    Calls Try.prog 90 #[.int .u16 (n : Int), .int .i64 a] w fun e w' => e = .returned (.bool (Pl.adB a && p a)) ∧ w = w' := by
  cases ha : Pl.adB a with
  | false =>
    have HA := Lib.hid ha
    clear ha
    go_enter Try.func90, Try.ntmps90
    go_wp2_with (go_at_call 84; refine (isAddr_c a _).mono ?_; rintro e w' ⟨rfl, rfl⟩; rw [HA.out])
    go_ret
    exact ⟨rfl, rfl⟩
  | true =>
    have hr := (Pl.adB_iff a).1 ha
    obtain ⟨t, rfl⟩ : ∃ t : Nat, a = (t : Int) := ⟨a.toNat, by omega⟩
    have ht : t ≤ 8 := by omega
    have hn := h.1
    have hd : n / 2 ^ t < 2 ^ 16 := Nat.lt_of_le_of_lt (Nat.div_le_self _ _) (by omega)
    have e2 := (bits_u16 (n / 2 ^ t) 1 hd (by omega)).1
    have e1 : ((n : Int) / 2 ^ t) = ((n / 2 ^ t : Nat) : Int) := by simp
    have e3 := h.has ht
    have E := Lib.hid (show (bits BinOp.and IntKind.u16 ((n : Int) / 2 ^ t) 1 == 1) = p (t : Int) by
      rw [e1, show ((1 : Int)) = ((1 : Nat) : Int) from rfl, e2, Nat.and_one_is_mod, ← e3]
      rw [Bool.eq_iff_iff]; simp only [beq_iff_eq]; omega)
    have HA := Lib.hid ha
    clear e1 e2 e3 hd ha
    go_enter Try.func90, Try.ntmps90
    go_wp2_with (go_at_call 84; refine (isAddr_c _ _).mono ?_; rintro e w' ⟨rfl, rfl⟩; rw [HA.out])
    go_ret
    exact ⟨by rw [← E.out]; rfl, rfl⟩

/-- A bit more. -/
theorem or_bit {n t : Nat} {p : Int → Bool} (h : TI n p) (ht : t ≤ 8) : bits BinOp.or IntKind.u16 (n : Int) (IntKind.u16.wrap (2 ^ t)) = ((n ||| 2 ^ t : Nat) : Int) := by
  have h2 : (2 : Nat) ^ t < 2 ^ 9 := Nat.pow_lt_pow_right (by omega) (by omega)
  have hn := h.1
  have e1 : IntKind.u16.wrap ((2 : Int) ^ t) = ((2 ^ t : Nat) : Int) := by
    rw [show ((2 : Int) ^ t) = ((2 ^ t : Nat) : Int) by simp]
    exact wraps_u16 _ (Int.natCast_nonneg _) (by exact_mod_cast (show 2 ^ t < 2 ^ 16 by omega))
  rw [e1, (bits_u16 n (2 ^ t) (by omega) (by omega)).2]

set_option maxHeartbeats 800000 in
theorem usedIn_c (A B : Option Addr) (n c d : Nat) (h : List Int) (w : World) (hB : Ints w B h) (h8 : h.length = 8) :
    Calls Try.prog 65 #[.agg #[.slice A n c, .slice B h.length d]] w fun e w' => ∃ m : Nat, e = .returned (.int .u16 (m : Int)) ∧ TI m (Pl.hasB h) ∧ Grow w w' := by
  have y0 := Box2.new w 43 (.slice A n c) (.slice B h.length d)
  have H8 := Lib.hid h8
  clear h8
  have g0 : Grow w (w.alloc (.cells #[.slice A n c, .slice B h.length d] 43)) := (by repeat (first | exact Grow.refl _ | assumption | refine Grow.alloc ?_ _ | refine Grow.drew ?_ | refine Grow.drewN ?_ _ | refine Grow.trans ?_ (by assumption) | refine Grow.below ?_ (by assumption) (by first | exact Nat.le_refl _ | omega)))
  go_enter Try.func65, Try.ntmps65
  go_wp2_with fail
  generalize w.alloc (.cells #[.slice A n c, .slice B h.length d] 43) = w0 at *
  go_loopw [3, 4] (fun q i wr => ∃ k m : Nat, k ≤ 8 ∧ i = .int .i64 ((k : Int) + 1) ∧ q = .int .u16 (m : Int) ∧ TI m (fun t => Pl.hasB h t && decide (t ≤ k)) ∧ Grow w wr ∧ Box2 wr w.heap.size 43 (.slice A n c) (.slice B h.length d)) (fun _ i _ => 9 - (intOf i).toNat)
  case atStart => exact ⟨0, 0, Nat.zero_le _, rfl, rfl, TI.zero.congr (fun t _ => by
    show false = _
    cases t with
    | zero => rw [show Pl.hasB h ((0 : Nat) : Int) = false from by rw [Pl.hasB_false, Pl.cont_out (by decide)]; omega]; rfl
    | succ t => rw [decide_eq_false (by omega)]; simp), g0, y0⟩
  case round =>
    clear g0 y0
    obtain ⟨k, m, hk, rfl, rfl, ht, g0, y0⟩ := hrel
    obtain ⟨k0, k1, _, _⟩ := y0.facts
    by_cases hlt : k < 8
    · have hk1 : (k : Int) + 1 ≤ 8 := by omega
      have hstep : ∀ b, Pl.hasB h ((k : Int) + 1) = b → ∀ t : Nat, t ≤ 8 → (Pl.hasB h (t : Int) && decide ((t : Int) ≤ ((k + 1 : Nat) : Int))) = ((Pl.hasB h (t : Int) && decide ((t : Int) ≤ (k : Int))) || (b && decide ((t : Int) = ((k + 1 : Nat) : Int)))) := by
        intro b hb t _
        by_cases e : t = k + 1
        · subst e
          rw [show (((k + 1 : Nat) : Int)) = (k : Int) + 1 from by omega, hb, decide_eq_true (show (k : Int) + 1 ≤ (k : Int) + 1 from by omega), decide_eq_false (show ¬ (k : Int) + 1 ≤ (k : Int) from by omega)]
          cases b <;> simp
        · rw [decide_eq_false (show ¬ (t : Int) = ((k + 1 : Nat) : Int) by omega), Bool.and_false, Bool.or_false]
          congr 1
          rw [Bool.eq_iff_iff]; simp; omega
      cases hb : Pl.hasB h ((k : Int) + 1) with
      | true =>
        have HB := Lib.hid hb
        have HT := Lib.hid ((ht.add (t := k + 1) (by omega)).congr (q := fun t => Pl.hasB h t && decide (t ≤ ((k + 1 : Nat) : Int))) (fun t h8 => by rw [hstep true hb t h8]; simp))
        have E := Lib.hid (or_bit ht (t := k + 1) (by omega))
        clear hb hstep ht
        go_wp2_with fail
        refine (allocated_c A B n c d h _ _ (hB.grow g0) H8.out).mono ?_
        rintro e w1 ⟨rfl, g1⟩
        rw [HB.out]
        replace g0 := g0.trans g1
        replace y0 := y0.grow g1
        clear g1 k0 k1
        go_wp2_with fail
        go_roundw
        case rel => exact ⟨k + 1, _, by omega, by go_num, by rw [← E.out], HT.out, g0, y0⟩
        case measure => simp [intOf]; omega
      | false =>
        have HB := Lib.hid hb
        have HT := Lib.hid (ht.congr (q := fun t => Pl.hasB h t && decide (t ≤ ((k + 1 : Nat) : Int))) (fun t h8 => by rw [hstep false hb t h8]; simp))
        clear hb hstep ht
        go_wp2_with fail
        refine (allocated_c A B n c d h _ _ (hB.grow g0) H8.out).mono ?_
        rintro e w1 ⟨rfl, g1⟩
        rw [HB.out]
        replace g0 := g0.trans g1
        replace y0 := y0.grow g1
        clear g1 k0 k1
        go_wp2_with fail
        go_roundw
        case rel => exact ⟨k + 1, m, by omega, by go_num, rfl, HT.out, g0, y0⟩
        case measure => simp [intOf]; omega
    · have hk8 : 8 < (k : Int) + 1 := by omega
      have HT := Lib.hid (ht.congr (q := Pl.hasB h) (fun t ht8 => by rw [decide_eq_true (show (t : Int) ≤ (k : Int) by omega), Bool.and_true]))
      clear ht
      go_wp2_with fail
      go_ret
      exact ⟨m, rfl, HT.out, g0⟩

end Go.Proofs.Ytlcijjbeikoppaa
