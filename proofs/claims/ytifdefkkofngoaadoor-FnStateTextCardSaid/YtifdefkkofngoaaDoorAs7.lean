/- Contracts of substitution in assertions, in the program and in the reference. Conditions: the lengths are far from Go's bounds. -/
import Derived.Test.YtifdefkkofngoaaDoorAs5
import Derived.Test.YtifdefkkofngoaaDoorBox3
namespace Go.Proofs.YtifdefkkofngoaaDoor
open Go.RowKit
set_option linter.unusedVariables false

/-- An assertion that the call made. -/
def RA1 (w : World) (s : Pl.Asr) (e : Ending) (w' : World) : Prop := ∃ A B c d, e = .returned (asval A B c d s) ∧ OAs w' w.heap.size A B c d s ∧ Grow w w'

/-! ### Rows in which the first elements are changed -/
theorem mix_get {α : Type} {f : α → α} {v : List α} {k : Nat} (h : k < v.length) : ((v.take k).map f ++ v.drop k)[k]? = some v[k] := by
  have hl : ((v.take k).map f).length = k := by simp; omega
  rw [List.getElem?_append_right (by omega), hl, Nat.sub_self, List.drop_eq_getElem_cons h]; rfl
theorem mix_step {α : Type} {f : α → α} {v : List α} {k : Nat} (h : k < v.length) : ((v.take k).map f ++ v.drop k).set k (f v[k]) = (v.take (k + 1)).map f ++ v.drop (k + 1) := by
  have hl : ((v.take k).map f).length = k := by simp; omega
  rw [List.set_append_right _ _ (by omega), hl, Nat.sub_self, List.drop_eq_getElem_cons h, List.set_cons_zero, List.take_succ_eq_append_getElem h, List.map_append]
  simp
theorem mix_len {α : Type} {f : α → α} {v : List α} {k : Nat} (h : k ≤ v.length) : ((v.take k).map f ++ v.drop k).length = v.length := by
  simp; omega
theorem fcells_set : ∀ (u : List Pl.Fct) (k : Nat) (h : k < u.length) (f' : Pl.Fct), f'.e = u[k].e → ((u.flatMap fcells).set (k * 3 + 1) (.int .i64 f'.a)).set (k * 3 + 2) (.int .i64 f'.b) = (u.set k f').flatMap fcells
  | [], k, h, _, _ => by simp at h
  | g :: u, 0, _, f', he => by
    simp only [List.getElem_cons_zero] at he
    simp [fcells, he]
  | g :: u, k + 1, h, f', he => by
    have ih := fcells_set u k (by simpa using h) f' (by simpa using he)
    rw [List.flatMap_cons, List.set_cons_succ, List.flatMap_cons, ← ih]
    rw [List.set_append_right _ _ (by simp [fcells]; omega), List.set_append_right _ _ (by simp [fcells]; omega)]
    simp only [fcells, List.length_cons, List.length_nil]
    rw [show (k + 1) * 3 + 1 - (0 + 1 + 1 + 1) = k * 3 + 1 from by omega, show (k + 1) * 3 + 2 - (0 + 1 + 1 + 1) = k * 3 + 2 from by omega]
theorem xcells_set : ∀ (u : List Pl.Atm) (k : Nat) (h : k < u.length) (f' : Pl.Atm), f'.k = u[k].k → ((u.flatMap xcells).set (k * 3 + 1) (.int .i64 f'.a)).set (k * 3 + 2) (.int .i64 f'.b) = (u.set k f').flatMap xcells
  | [], k, h, _, _ => by simp at h
  | g :: u, 0, _, f', he => by
    simp only [List.getElem_cons_zero] at he
    simp [xcells, he]
  | g :: u, k + 1, h, f', he => by
    have ih := xcells_set u k (by simpa using h) f' (by simpa using he)
    rw [List.flatMap_cons, List.set_cons_succ, List.flatMap_cons, ← ih]
    rw [List.set_append_right _ _ (by simp [xcells]; omega), List.set_append_right _ _ (by simp [xcells]; omega)]
    simp only [xcells, List.length_cons, List.length_nil]
    rw [show (k + 1) * 3 + 1 - (0 + 1 + 1 + 1) = k * 3 + 1 from by omega, show (k + 1) * 3 + 2 - (0 + 1 + 1 + 1) = k * 3 + 2 from by omega]


theorem cell_in {w : World} {lo E n c g : Nat} {xs : List Value} (h : w.ownsRow lo E 3 (.slice (some ⟨g, 0, none⟩) n c) n xs) {o : Nat} (ho : o < n * 3) : ∃ z, w.cell? ⟨g, o, none⟩ = some z := by
  have hl := h.1
  exact ⟨_, own_cellAt h (List.getElem?_eq_getElem (by omega))⟩

theorem ofacts_snc {w : World} {lo c : Nat} {A : Option Addr} {l : List Pl.Fct} {f : Pl.Fct} (h : w.ownsRow lo 78 3 (.slice A (l.length + 1) c) (l.length + 1) ((l ++ [f]).flatMap fcells)) : OFacts w lo (.slice A (l ++ [f]).length c) (l ++ [f]) := by
  show World.ownsRow _ _ _ _ (.slice _ (l ++ [f]).length _) (l ++ [f]).length _
  rw [List.length_append]; exact h
theorem oatoms_snc {w : World} {lo c : Nat} {A : Option Addr} {l : List Pl.Atm} {f : Pl.Atm} (h : w.ownsRow lo 82 3 (.slice A (l.length + 1) c) (l.length + 1) ((l ++ [f]).flatMap xcells)) : OAtoms w lo (.slice A (l ++ [f]).length c) (l ++ [f]) := by
  show World.ownsRow _ _ _ _ (.slice _ (l ++ [f]).length _) (l ++ [f]).length _
  rw [List.length_append]; exact h

end Go.Proofs.YtifdefkkofngoaaDoor
