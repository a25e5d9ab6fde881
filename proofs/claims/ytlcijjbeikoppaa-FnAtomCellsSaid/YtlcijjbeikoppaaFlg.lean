/- Rows of Bools that a call made: flags of terms and of addresses. No conditions. -/
import Derived.Test.YtlcijjbeikoppaaMem
import Derived.Laws.OwnMore
namespace Go.Proofs.Ytlcijjbeikoppaa
open Go.RowKit
set_option linter.unusedVariables false

def flg (n : Nat) (p : Int → Bool) : List Value := (List.range n).map fun t => Value.bool (p ((t : Nat) : Int))
theorem flg_len (n : Nat) (p : Int → Bool) : (flg n p).length = n := by simp [flg]
theorem flg_get {n : Nat} (p : Int → Bool) {t : Nat} (h : t < n) : (flg n p)[t]? = some (.bool (p (t : Int))) := by simp [flg, h]
theorem flg_set {n : Nat} (p : Int → Bool) {j : Nat} (h : j < n) (b : Bool) : (flg n p).set j (.bool b) = flg n (fun t => if t = (j : Int) then b else p t) := by
  apply List.ext_getElem
  · simp [flg]
  · intro i h1 h2
    rw [List.getElem_set]
    by_cases e : j = i
    · subst e; simp [flg]
    · rw [if_neg e]; simp only [flg, List.getElem_map, List.getElem_range]; rw [if_neg (by omega)]
theorem flg_congr {n : Nat} {p q : Int → Bool} (h : ∀ t : Nat, t < n → p (t : Int) = q (t : Int)) : flg n p = flg n q := by
  unfold flg
  refine List.map_congr_left fun t ht => ?_
  rw [h t (List.mem_range.1 ht)]
abbrev OFlg (w : World) (lo : Nat) (A : Option Addr) (c n : Nat) (p : Int → Bool) : Prop := w.ownsRow lo 4 1 (.slice A n c) n (flg n p)
theorem OFlg.set {w : World} {lo c n g : Nat} {p : Int → Bool} (h : OFlg w lo (some ⟨g, 0, none⟩) c n p) {j : Nat} (hj : j < n) (b : Bool) : OFlg (w.setCell ⟨g, j, none⟩ (.bool b)) lo (some ⟨g, 0, none⟩) c n (fun t => if t = (j : Int) then b else p t) := by
  have k := own_set h j (.bool b)
  rw [flg_set p hj] at k
  exact k
theorem OFlg.congr {w : World} {lo c n : Nat} {A : Option Addr} {p q : Int → Bool} (h : OFlg w lo A c n p) (e : ∀ t : Nat, t < n → p (t : Int) = q (t : Int)) : OFlg w lo A c n q := by
  unfold OFlg at h ⊢; rw [← flg_congr e]; exact h
theorem OFlg.at_ {w : World} {lo c n g : Nat} {p : Int → Bool} (h : OFlg w lo (some ⟨g, 0, none⟩) c n p) {j : Nat} (hj : j < n) : w.cell? ⟨g, j, none⟩ = some (.bool (p (j : Int))) := own_cellAt h (flg_get p hj)
theorem bool_info : (Try.prog.info? 4).map (fun i => (i.zero, i.size, i.bytes)) = some (some (.bool false), 1, 1) := by kernel_rfl
theorem madeB9 (W : World) : (Instr.makeSlice 110 (.int .i64 9) (.int .i64 9)).run Try.prog W = .ok (.slice (some ⟨W.heap.size, 0, none⟩) 9 9) (W.alloc (.cells (madeCells #[.bool false] 9) 4)) := by
  obtain ⟨i0, hi, hz0, hz1, hz2⟩ := info_parts bool_info
  have h := run_make_rows (P := Try.prog) 110 4 i0 _ Try.underlying110 hi hz0 .i64 .i64 9 9 (Nat.le_refl _) (by rw [hz2]; omega) (by omega) W
  rw [hz1] at h
  exact h
theorem own_flg9 (W : World) : OFlg (W.alloc (.cells (madeCells #[.bool false] 9) 4)) W.heap.size (some ⟨W.heap.size, 0, none⟩) 9 9 fun _ => false :=
  ⟨by simp [flg], .inr ⟨W.heap.size, 9, _, rfl, Nat.le_refl _, heap_alloc_new W _, Nat.le_refl _, by unfold maxLen; omega, by rw [size_madeCells], by rw [toList_madeCells_one]; rfl⟩⟩

end Go.Proofs.Ytlcijjbeikoppaa
