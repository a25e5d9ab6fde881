/- Contracts of the tests of lists of facts: validity and truth for values, in the program and in the reference. Conditions: the lengths are far from Go's bounds. -/
import Derived.Test.YtagihhainhdhfaaValid
namespace Go.Proofs.Ytagihhainhdhfaa
open Go.RowKit
set_option linter.unusedVariables false

/-- What TermClasses returns. -/
def tcl (l : List Pl.Fct) : List Int := if Pl.fsv l then Pl.clsL l else []
theorem tcl_len (l : List Pl.Fct) : (tcl l).length ≤ 9 := by
  unfold tcl; split
  · rw [Pl.clsL_length]; omega
  · simp
theorem all_false {α : Type} {p : α → Bool} {l : List α} {k : Nat} (h : k < l.length) (hp : p l[k] = false) : l.all p = false := by
  rw [List.all_eq_false]; exact ⟨l[k], List.getElem_mem h, by rw [hp]; decide⟩
theorem all_step {α : Type} {p : α → Prop} {l : List α} {k : Nat} (h : k < l.length) (hv : ∀ f ∈ l.take k, p f) (hp : p l[k]) : ∀ f ∈ l.take (k + 1), p f := by
  intro f hf
  rw [take_snoc l k h] at hf
  rcases List.mem_append.1 hf with hf | hf
  · exact hv f hf
  · rw [List.mem_singleton.1 hf]; exact hp
theorem all_done {α : Type} {p : α → Bool} {l : List α} {k : Nat} (h : ¬ k < l.length) (hv : ∀ f ∈ l.take k, p f = true) : l.all p = true := by
  rw [take_eq_all h] at hv; exact List.all_eq_true.2 hv


theorem termValue_c (A : Option Addr) (c : Nat) (vs : List Int) (t : Int) (w : World) (hA : Ints w A vs) (hn : vs.length = 8) (h0 : 0 ≤ t) (h8 : t ≤ 8) :
    Calls Try.prog 51 #[.slice A 8 c, .int .i64 t] w fun e w' => e = .returned (.int .i64 (Pl.tval vs t)) ∧ w = w' := by
  by_cases ht : t = 0
  · subst ht
    clear h0 h8
    go_enter Try.func51, Try.ntmps51
    go_wp2
    go_ret
    exact ⟨rfl, rfl⟩
  · obtain ⟨n, rfl⟩ : ∃ n : Nat, t = (n : Int) + 1 := ⟨(t - 1).toNat, by omega⟩
    have hlt : n < vs.length := by omega
    have H := Lib.hid (show Pl.tval vs ((n : Int) + 1) = vs[n] by
      unfold Pl.tval; rw [if_neg ht, show ((n : Int) + 1 - 1).toNat = n from by omega, List.getD_eq_getElem?_getD, List.getElem?_eq_getElem hlt]; rfl)
    obtain ⟨b, off, rfl, c0⟩ := hA.at_ hlt
    have hb : (((n : Int) + 1) == 0) = false := by simp; omega
    have hN := Lib.hid hn
    clear hn ht
    go_enter Try.func51, Try.ntmps51
    go_wp2
    go_ret
    exact ⟨by rw [H.out]; rfl, rfl⟩

theorem hold_def (l : List Pl.Fct) (vs : List Int) : Pl.holdB l vs = l.all fun f => (decide (Pl.tval vs f.a = Pl.tval vs f.b)) == f.e := rfl

theorem hold_t {x y : Int} {e : Bool} (h : ((decide (x = y)) == e) = true) : (!((x == y) == e)) = false := by
  rw [show (x == y) = decide (x = y) from by rw [Bool.eq_iff_iff]; simp, h]; rfl
theorem hold_f {x y : Int} {e : Bool} (h : ((decide (x = y)) == e) = false) : (!((x == y) == e)) = true := by
  rw [show (x == y) = decide (x = y) from by rw [Bool.eq_iff_iff]; simp, h]; rfl

end Go.Proofs.Ytagihhainhdhfaa
