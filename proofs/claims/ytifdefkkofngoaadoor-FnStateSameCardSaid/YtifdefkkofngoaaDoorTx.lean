/- Rows of texts in memory; the draws of a term and of a text. Conditions: the bounds on what the reader has picked. -/
import Derived.Test.YtifdefkkofngoaaDoorNm
import Derived.Test.YtifdefkkofngoaaDoorDrawF
namespace Go.Proofs.YtifdefkkofngoaaDoor
open Go.RowKit
set_option linter.unusedVariables false

abbrev tcells (l : List (List UInt8)) : List Value := l.map fun s => Value.string (Pl.str s)
/-- Texts that can be read. -/
def Texts (w : World) (A : Option Addr) (l : List (List UInt8)) : Prop :=
  l ≠ [] → ∃ b off, A = some ⟨b, off, none⟩ ∧ ∀ i (hi : i < l.length), w.cell? ⟨b, off + i, none⟩ = some (.string (Pl.str l[i]))
theorem Texts.grow {w w' : World} {A : Option Addr} {l : List (List UInt8)} (h : Texts w A l) (hg : Grow w w') : Texts w' A l := fun hl => by
  obtain ⟨b, off, hA, hc⟩ := h hl
  exact ⟨b, off, hA, fun i hi => hg.cell (hc i hi)⟩
theorem Texts.at_ {w : World} {A : Option Addr} {l : List (List UInt8)} (h : Texts w A l) {k : Nat} (hk : k < l.length) : ∃ b off, A = some ⟨b, off, none⟩ ∧ w.cell? ⟨b, off + k, none⟩ = some (.string (Pl.str l[k])) := by
  obtain ⟨b, off, hA, hc⟩ := h (by rintro rfl; simp at hk)
  exact ⟨b, off, hA, hc k hk⟩
abbrev OTexts (w : World) (lo : Nat) (v : Value) (l : List (List UInt8)) : Prop := w.ownsRow lo 9 1 v l.length (tcells l)
theorem OTexts.texts {w : World} {lo n c : Nat} {A : Option Addr} {l : List (List UInt8)} (hn : n = l.length) (h : OTexts w lo (.slice A n c) l) : Texts w A l := fun hl => by
  subst hn
  obtain ⟨g, rfl, _, _, hc⟩ := own_cells h (by simpa using hl)
  exact ⟨g, 0, rfl, fun i hi => hc i (.string (Pl.str l[i])) (by simp [hi])⟩
theorem lit_texts (w : World) (l : List (List UInt8)) (cs : Array Value) (hcs : cs = (tcells l).toArray) (hl : l.length ≤ 100) : OTexts (w.alloc (.cells cs 9)) w.heap.size (.slice (some ⟨w.heap.size, 0, none⟩) l.length l.length) l := by
  subst hcs
  have h := World.ownsRow_lit (e := 9) (size := 1) w (tcells l).toArray l.length (Nat.le_refl _) (by unfold maxLen; omega) (by simp)
  simpa using h

/-- A text out of a list: one of its elements. -/
theorem of_c (g q c lo : Nat) (A : Option Addr) (l : List (List UInt8)) (w : World) (hr : RD w g q) (hq : q ≤ 1000000) (h1 : 0 < l.length) (h2 : l.length ≤ 100) (ho : OTexts w lo (.slice A l.length c) l) (hlo : g < lo) :
    Calls Tryd.prog 95 #[.pointer (some ⟨g, 0, none⟩), .slice A l.length c] w fun e w' => (∃ v, v ∈ l ∧ e = .returned (.string (Pl.str v))) ∧ RD w' g (q + 1) ∧ w.grownBy w' (some g) := by
  go_enter Tryd.func95, Tryd.ntmps95
  go_wp2_with fail
  refine (pick_c g q l.length w hr hq (by omega) (by omega)).mono ?_
  rintro e w1 ⟨⟨v, hv, rfl⟩, hr1, hg1⟩
  have ho1 : OTexts w1 lo (.slice A l.length c) l := own_kept ho hg1 (fun k hk e => by have := own_blk ho k hk; injection e with e; omega)
  obtain ⟨b, off, rfl, c0⟩ := (OTexts.texts rfl ho1).at_ hv
  go_wp2_with fail
  go_ret
  exact ⟨⟨l[v], List.getElem_mem hv, rfl⟩, hr1, hg1⟩

end Go.Proofs.YtifdefkkofngoaaDoor
