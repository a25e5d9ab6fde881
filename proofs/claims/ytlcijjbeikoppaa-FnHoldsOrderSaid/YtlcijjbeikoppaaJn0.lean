/- Contracts of joining two states, in the program and in the reference. Conditions: the lengths are far from Go's bounds. -/
import Derived.Test.YtlcijjbeikoppaaKp
import Derived.Deep.DeepCutAuto
namespace Go.Proofs.Ytlcijjbeikoppaa
open Go.RowKit
set_option linter.unusedVariables false

theorem ti_below (p : Int → Bool) : ∀ k : Nat, k ≤ 9 → ∃ m, TI m fun t => p t && decide (t < (k : Int))
  | 0, _ => ⟨0, TI.zero.congr fun t _ => by rw [decide_eq_false (by omega), Bool.and_false]; rfl⟩
  | k + 1, hk => by
    obtain ⟨m, hm⟩ := ti_below p k (by omega)
    cases hp : p (k : Int) with
    | true =>
      refine ⟨_, (hm.add (t := k) (by omega)).congr fun t _ => ?_⟩
      by_cases e : t = k
      · subst e; rw [hp]; simp; omega
      · rw [decide_eq_false (show ¬ (t : Int) = (k : Int) by omega), Bool.or_false]
        congr 1; rw [Bool.eq_iff_iff]; simp; omega
    | false =>
      refine ⟨m, hm.congr fun t _ => ?_⟩
      by_cases e : t = k
      · subst e; rw [hp]; simp
      · congr 1; rw [Bool.eq_iff_iff]; simp; omega
theorem ti_any (p : Int → Bool) : ∃ m, TI m p := by
  obtain ⟨m, hm⟩ := ti_below p 9 (Nat.le_refl _)
  exact ⟨m, hm.congr fun t ht => by rw [decide_eq_true (by omega), Bool.and_true]⟩

theorem usedIn_m (A B : Option Addr) (n c d m : Nat) (h : List Int) (w : World) (hB : Ints w B h) (h8 : h.length = 8) (hm : TI m (Pl.hasB h)) :
    Calls Try.prog 65 #[.agg #[.slice A n c, .slice B h.length d]] w fun e w' => e = .returned (.int .u16 (m : Int)) ∧ Grow w w' := by
  refine (usedIn_c A B n c d h w hB h8).mono ?_
  rintro e w' ⟨m2, rfl, ht, g⟩
  rw [show m2 = m from (ht.eq_iff hm).2 fun t _ => rfl]
  exact ⟨rfl, g⟩

theorem ti_bit {n : Nat} {p : Int → Bool} (h : TI n p) {t : Nat} (ht : t ≤ 8) : n.testBit t = p (t : Int) := h.2 t ht
theorem apart_bits {m n : Nat} {g h : List Int} (hm : TI m (Pl.hasB g)) (hn : TI n (Pl.hasB h)) : (bits BinOp.and IntKind.u16 (m : Int) (n : Int) != 0) = !Pl.apartB g h := by
  have h1 := hm.1
  have h2 := hn.1
  rw [(bits_u16 m n (by omega) (by omega)).1, Bool.eq_iff_iff]
  have hz : (m &&& n = 0) ↔ Pl.apartB g h = true := by
    rw [Pl.apartB_iff]
    constructor
    · rintro e i hi ⟨a, b⟩
      have := congrArg (fun x => x.testBit (i + 1)) e
      simp only [Nat.testBit_and, Nat.zero_testBit] at this
      rw [ti_bit hm (t := i + 1) (by omega), ti_bit hn (t := i + 1) (by omega), show (((i + 1 : Nat) : Int)) = (i : Int) + 1 by omega, a, b] at this
      cases this
    · intro e
      apply Nat.eq_of_testBit_eq
      intro i
      rw [Nat.testBit_and, Nat.zero_testBit]
      by_cases h9 : i ≤ 8
      · rw [ti_bit hm h9, ti_bit hn h9]
        cases i with
        | zero => rw [show Pl.hasB g ((0 : Nat) : Int) = false from by rw [Pl.hasB_false, Pl.cont_out (by decide)]; omega]; rfl
        | succ i =>
          have := e i (by omega)
          rw [show (((i + 1 : Nat) : Int)) = (i : Int) + 1 by omega]
          cases ha : Pl.hasB g ((i : Int) + 1) with
          | false => rfl
          | true =>
            cases hb : Pl.hasB h ((i : Int) + 1) with
            | false => rfl
            | true => exact absurd ⟨ha, hb⟩ this
      · have h5 : (2 : Nat) ^ 9 ≤ 2 ^ i := Nat.pow_le_pow_right (by omega) (by omega)
        rw [Nat.testBit_lt_two_pow (Nat.lt_of_lt_of_le h1 h5)]; rfl
  cases ha : Pl.apartB g h with
  | true => rw [hz.2 ha]; simp
  | false =>
    have : m &&& n ≠ 0 := fun e => by rw [hz.1 e] at ha; cases ha
    simp only [Bool.not_false, bne_iff_ne, ne_eq, iff_true]
    omega

theorem joinOk_1 {s t : Pl.St} (h : Pl.stv s = false) : Pl.joinOk s t = false := by unfold Pl.joinOk; rw [h]; rfl
theorem joinOk_2 {s t : Pl.St} (h : Pl.stv t = false) : Pl.joinOk s t = false := by unfold Pl.joinOk; rw [h]; simp
theorem joinOk_3 {s t : Pl.St} (h : ¬ s.v = t.v) : Pl.joinOk s t = false := by unfold Pl.joinOk; rw [decide_eq_false h]; simp
theorem joinOk_4 {s t : Pl.St} (h : Pl.apartB s.h t.h = false) : Pl.joinOk s t = false := by unfold Pl.joinOk; rw [h]; simp
theorem joinOk_5 {s t : Pl.St} (h1 : Pl.stv s = true) (h2 : Pl.stv t = true) (h3 : s.v = t.v) (h4 : Pl.apartB s.h t.h = true) : Pl.joinOk s t = true := by unfold Pl.joinOk; rw [h1, h2, decide_eq_true h3, h4]; rfl
theorem joinStep {g h u : List Int} {k : Nat} (hu : u = Pl.joinTo g k h) (hp : Pl.hasB g ((k : Int) + 1) = true) : u.set k (Pl.cont g ((k : Int) + 1)) = Pl.joinTo g (k + 1) h := by rw [Pl.joinTo_set hp, hu]
theorem joinSkip {g h u : List Int} {k : Nat} (hu : u = Pl.joinTo g k h) (hp : Pl.hasB g ((k : Int) + 1) = false) : u = Pl.joinTo g (k + 1) h := by rw [Pl.joinTo_keep hp, hu]

end Go.Proofs.Ytlcijjbeikoppaa
