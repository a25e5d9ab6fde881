/- strings.Split in the words of the plain laws; a row of texts in one block; plain steps of the reading of lists. Conditions: the text is shorter than the library's bound. -/
import Derived.Test.YtifdefkkofngoaaDoorPx
import Derived.Test.YtifdefkkofngoaaDoorTx
import Derived.Lib.SplitLaws
namespace Go.Proofs.YtifdefkkofngoaaDoor
open Go.RowKit
set_option linter.unusedVariables false

/-- A row of texts in one block. -/
def Tb (w : World) (g : Nat) (l : List (List UInt8)) : Prop := w.heap[g]? = some (.cells (tcells l).toArray 9 (0, 0))
theorem Tb.new (w : World) (l : List (List UInt8)) : Tb (w.alloc (.cells (tcells l).toArray 9)) w.heap.size l := heap_alloc_new w _
theorem Tb.grow {w w' : World} {g : Nat} {l : List (List UInt8)} (h : Tb w g l) (k : Grow w w') : Tb w' g l := k.heap h
theorem Tb.lt {w : World} {g : Nat} {l : List (List UInt8)} (h : Tb w g l) : g < w.heap.size := (Array.getElem?_eq_some_iff.1 h).1
theorem Tb.far {w : World} {g : Nat} {l : List (List UInt8)} (h : Tb w g l) {p : Addr} (hp : g ≠ p.block) (u : Value) : Tb (w.setCell p u) g l := (Below.heap_setCell w p u g hp).trans h
theorem Tb.bel {w w' : World} {g B : Nat} {l : List (List UInt8)} (h : Tb w g l) (b : Below B w w') (hB : g < B) : Tb w' g l := (b.block g hB).trans h
theorem Tb.at_ {w : World} {g : Nat} {l : List (List UInt8)} (h : Tb w g l) {k : Nat} (hk : k < l.length) : w.cell? ⟨g, k, none⟩ = some (.string (Pl.str l[k])) := by
  unfold Tb at h
  rw [cell_of_row w g k _ _ (0, 0) h, List.getElem?_toArray, List.getElem?_map, List.getElem?_eq_getElem hk]; rfl

theorem splitB_str (sep s : List UInt8) : Lib.splitB (Pl.str sep) 0 (Lib.countB (Pl.str s) (Pl.str sep)) (Pl.str s) = (Lib.split s sep).map Pl.str := by
  have h := Lib.splitB_data (Pl.str sep) 0 (Lib.countB (Pl.str s) (Pl.str sep)) (Pl.str s)
  rw [Pl.str_data, Pl.str_data] at h
  unfold Lib.split
  rw [show Lib.count s sep = Lib.countB (Pl.str s) (Pl.str sep) by unfold Lib.countB; rw [Pl.str_data, Pl.str_data], ← h, List.map_map]
  conv => lhs; rw [← List.map_id (Lib.splitB _ _ _ _)]
  exact List.map_congr_left fun a _ => (Pl.data_str a).symm
theorem split_length (s sep : List UInt8) (h1 : 1 ≤ sep.length) : (Lib.split s sep).length = Lib.countB (Pl.str s) (Pl.str sep) + 1 := by
  have h := Lib.splitB_all (Pl.str sep) (by rw [Pl.str_size]; exact h1) 0 _ (Pl.str s) rfl
  rw [splitB_str, List.length_map] at h; exact h
theorem split_le (s sep : List UInt8) (h1 : 1 ≤ sep.length) : (Lib.split s sep).length ≤ s.length + 1 := by
  rw [split_length s sep h1]
  have := Lib.countB_le (Pl.str sep) (by rw [Pl.str_size]; exact h1) _ (Pl.str s) (Nat.le_refl _)
  rw [Pl.str_size] at this; omega
theorem Split_c (s sep : List UInt8) (raw : ByteArray) (hraw : raw = Pl.str sep) (w : World) (hs : s.length ≤ 2000000) (h1 : 1 ≤ sep.length) (hM : MaxL w) :
    Calls Tryd.prog 48 #[.string (Pl.str s), .string raw] w fun e w' => e = .returned (.slice (some ⟨w.heap.size, 0, none⟩) (Lib.split s sep).length (Lib.split s sep).length) ∧ w' = w.alloc (.cells (tcells (Lib.split s sep)).toArray 9) := by
  obtain ⟨m, hm⟩ := hM
  subst hraw
  refine (Tryd.strings_Split (Pl.str s) (Pl.str sep) m w (by rw [Pl.str_size]; omega) hm (by rw [Pl.str_size]; exact h1)).mono ?_
  rintro e w' ⟨rfl, rfl⟩
  rw [splitB_str, split_length s sep h1, List.map_map]
  exact ⟨rfl, rfl⟩
theorem mem_join_len {sep p : List UInt8} : ∀ {ps : List (List UInt8)}, p ∈ ps → p.length ≤ (Lib.join ps sep).length
  | [], h => by cases h
  | [q], h => by rw [List.mem_singleton.1 h, Lib.join_one]; exact Nat.le_refl _
  | q :: r :: l, h => by
    rw [Pl.join_two, List.length_append, List.length_append]
    rcases List.mem_cons.1 h with rfl | h
    · omega
    · have := mem_join_len (sep := sep) h; omega
theorem split_mem_len {s sep p : List UInt8} (h : p ∈ Lib.split s sep) : p.length ≤ s.length := by
  have := mem_join_len (sep := sep) h
  rw [Pl.join_split] at this; exact this

/-! ### Steps of the readings -/
theorem pFs_ok {ps : List (List UInt8)} {k : Nat} (hk : k < ps.length) {f : Pl.Fct} (hf : Pl.pF ps[k] = (f, true)) {u : List Pl.Fct} (hu : ¬ u.length = 12) : Pl.pFs (ps.drop k) u = Pl.pFs (ps.drop (k + 1)) (u ++ [f]) := by
  rw [List.drop_eq_getElem_cons hk]
  conv => lhs; unfold Pl.pFs
  rw [hf, if_pos (by simp [hu])]
theorem pFs_bad {ps : List (List UInt8)} {k : Nat} (hk : k < ps.length) {f : Pl.Fct} (hf : Pl.pF ps[k] = (f, false)) {u : List Pl.Fct} : Pl.pFs (ps.drop k) u = none := by
  rw [List.drop_eq_getElem_cons hk]; unfold Pl.pFs; rw [hf, if_neg (by simp)]
theorem pFs_full {ps : List (List UInt8)} {k : Nat} (hk : k < ps.length) {u : List Pl.Fct} (hu : u.length = 12) : Pl.pFs (ps.drop k) u = none := by
  rw [List.drop_eq_getElem_cons hk]; unfold Pl.pFs; rw [if_neg (by simp [hu])]
theorem pFs_end {ps : List (List UInt8)} {k : Nat} (hk : ¬ k < ps.length) {u : List Pl.Fct} : Pl.pFs (ps.drop k) u = some u := by
  rw [List.drop_eq_nil_of_le (by omega)]; rfl
theorem pXs_ok {ps : List (List UInt8)} {k : Nat} (hk : k < ps.length) {f : Pl.Atm} (hf : Pl.pX ps[k] = (f, true)) {u : List Pl.Atm} (hu : ¬ u.length = 6) : Pl.pXs (ps.drop k) u = Pl.pXs (ps.drop (k + 1)) (u ++ [f]) := by
  rw [List.drop_eq_getElem_cons hk]
  conv => lhs; unfold Pl.pXs
  rw [hf, if_pos (by simp [hu])]
theorem pXs_bad {ps : List (List UInt8)} {k : Nat} (hk : k < ps.length) {f : Pl.Atm} (hf : Pl.pX ps[k] = (f, false)) {u : List Pl.Atm} : Pl.pXs (ps.drop k) u = none := by
  rw [List.drop_eq_getElem_cons hk]; unfold Pl.pXs; rw [hf, if_neg (by simp)]
theorem pXs_full {ps : List (List UInt8)} {k : Nat} (hk : k < ps.length) {u : List Pl.Atm} (hu : u.length = 6) : Pl.pXs (ps.drop k) u = none := by
  rw [List.drop_eq_getElem_cons hk]; unfold Pl.pXs; rw [if_neg (by simp [hu])]
theorem pXs_end {ps : List (List UInt8)} {k : Nat} (hk : ¬ k < ps.length) {u : List Pl.Atm} : Pl.pXs (ps.drop k) u = some u := by
  rw [List.drop_eq_nil_of_le (by omega)]; rfl

end Go.Proofs.YtifdefkkofngoaaDoor
