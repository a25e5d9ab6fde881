/- Contracts of keeping and dropping cells of a state, in the program and in the reference. Conditions: the lengths are far from Go's bounds. -/
import Derived.Test.YtlcijjbeikoppaaCel
namespace Go.Proofs.Ytlcijjbeikoppaa
open Go.RowKit
set_option linter.unusedVariables false

/-- What a choice of cells gives in the program. -/
def RSet (r : Option (Int → Bool)) (e : Ending) : Prop := match r with
  | none => e = .returned (.tuple #[.int .u16 0, .bool false])
  | some p => ∃ m : Nat, e = .returned (.tuple #[.int .u16 (m : Int), .bool true]) ∧ TI m p
theorem RSet.no {r : Option (Int → Bool)} {e : Ending} (h : r = none) (he : e = .returned (.tuple #[.int .u16 0, .bool false])) : RSet r e := by subst h; exact he
theorem RSet.yes {r : Option (Int → Bool)} {p : Int → Bool} {m : Nat} {e : Ending} (h : r = some p) (he : e = .returned (.tuple #[.int .u16 (m : Int), .bool true])) (ht : TI m p) : RSet r e := by subst h; exact ⟨m, he, ht⟩
theorem chP_no1 {h : List Int} {n : Int} {l : List Int} {p : Int → Bool} (hb : Pl.hasB h n = false) : Pl.chosenP.chP h (n :: l) p = none := by unfold Pl.chosenP.chP; rw [hb]; rfl
theorem chP_no2 {h : List Int} {n : Int} {l : List Int} {p : Int → Bool} (hb : p n = true) : Pl.chosenP.chP h (n :: l) p = none := by unfold Pl.chosenP.chP; rw [hb, Bool.not_true, Bool.and_false]; rfl
theorem chP_on {h : List Int} {n : Int} {l : List Int} {p : Int → Bool} (hb : Pl.hasB h n = true) (hp : p n = false) : Pl.chosenP.chP h (n :: l) p = Pl.chosenP.chP h l fun t => p t || decide (t = n) := by
  conv => lhs; unfold Pl.chosenP.chP
  rw [hb, hp]; rfl
theorem drop_at {α : Type} {l : List α} {k : Nat} (h : k < l.length) : l.drop k = l[k] :: l.drop (k + 1) := List.drop_eq_getElem_cons h

/-- A state that the call made. -/
def RS1 (w : World) (s : Pl.St) (e : Ending) (w' : World) : Prop := ∃ A B c d, e = .returned (sval A B c d s) ∧ OSt w' w.heap.size A B c d s ∧ Grow w w'



theorem xor16 (m : Nat) (hm : m < 65536) : bits BinOp.xor IntKind.u16 IntKind.u16.max (m : Int) = ((65535 ^^^ m : Nat) : Int) := by
  have hx : 65535 ^^^ m < 2 ^ 16 := Nat.xor_lt_two_pow (by omega) (by omega)
  have e : (BitVec.ofInt 16 (m : Int)).toNat = m := by
    rw [BitVec.ofInt_natCast, BitVec.toNat_ofNat]; exact Nat.mod_eq_of_lt (by omega)
  show IntKind.u16.wrap ((BitVec.ofInt 16 (65535 : Int) ^^^ BitVec.ofInt 16 (m : Int)).toNat : Int) = _
  rw [BitVec.toNat_xor, e, show (BitVec.ofInt 16 (65535 : Int)).toNat = 65535 from by decide]
  exact wraps_u16 _ (Int.natCast_nonneg _) (by exact_mod_cast hx)
theorem TB.neg {m : Nat} {p : Int → Bool} (h : TB m p) : TB (65535 ^^^ m) fun t => !p t := by
  refine ⟨Nat.xor_lt_two_pow (n := 16) (by omega) h.1, fun t ht => ?_⟩
  rw [Nat.testBit_xor, h.2 t ht, (show ∀ k : Fin 9, Nat.testBit 65535 k.val = true by decide) ⟨t, by omega⟩, Bool.true_xor]

end Go.Proofs.Ytlcijjbeikoppaa
