/- Words for memory: what a call leaves as it was (Grow), slices that read as lists (Ints, Facts), rows of the call's own (ownsRow, Part). No conditions. -/
import Derived.Test.YtifdefkkofngoaaDoorProg
import Derived.Test.YtifdefkkofngoaaDoorPlainAll
import Derived.WalkKit
import Derived.Lib.Hide
import Derived.Outline
import Derived.BigQuiet
import Derived.Deep.QuietTactic
import Derived.Deep.Draws
import Derived.StillTailTactics
import Derived.WalkSpells
namespace Go.Proofs.YtifdefkkofngoaaDoor
open Go.RowKit

theorem mixed : Tryd.prog.follows .mixedOrders = true := by kernel_rfl

/-- All that was there is as it was; there may be new blocks. -/
def Grow (w w' : World) : Prop := Below w.heap.size w w'
theorem Grow.refl (w : World) : Grow w w := Below.refl _ _
theorem Grow.trans {a b c : World} (h : Grow a b) (k : Grow b c) : Grow a c := Below.trans h (Below.mono k h.size)
theorem Grow.alloc {a w : World} (h : Grow a w) (o : Obj) : Grow a (w.alloc o) := Below.alloc h h.size o
theorem Grow.drew {a w : World} (h : Grow a w) : Grow a w.drew := Below.drew h
theorem Grow.drewN {a w : World} (h : Grow a w) (n : Nat) : Grow a (w.drewN n) := ⟨h.os, h.tape, h.output, h.size, h.block⟩
theorem Grow.setCell {a w : World} (h : Grow a w) {p : Addr} (hp : a.heap.size ≤ p.block) (u : Value) : Grow a (w.setCell p u) := Below.setCell h hp u
theorem Grow.cell {w w' : World} (h : Grow w w') {p : Addr} {u : Value} (hc : w.cell? p = some u) : w'.cell? p = some u := (Below.cell h (World.block_lt_of_cell? w p hc)).trans hc
theorem Grow.heap {w w' : World} (h : Grow w w') {g : Nat} {o : Obj} (hc : w.heap[g]? = some o) : w'.heap[g]? = some o := (h.block g (Array.getElem?_eq_some_iff.1 hc).1).trans hc
theorem Grow.by_ {w w' : World} (h : Grow w w') (row : Option Nat) : w.grownBy w' row := ⟨h.os, h.tape, h.output, h.size, fun k hk _ => h.block k hk⟩
theorem Grow.below {a b c : World} {B : Nat} (h : Grow a b) (k : Below B b c) (hB : a.heap.size ≤ B) : Grow a c := Below.trans h (k.mono hB)
theorem Grow.le {w w' : World} (h : Grow w w') : w.heap.size ≤ w'.heap.size := h.size
/-- Behind a step that writes one row alone, which the call made. -/
theorem Grow.grown {a w w' : World} {row : Option Nat} (h : Grow a w) (hg : w.grownBy w' row) (hr : ∀ k, row = some k → a.heap.size ≤ k) : Grow a w' := Below.grown h hg h.size hr

abbrev fval (f : Pl.Fct) : Value := .agg #[.bool f.e, .int .i64 f.a, .int .i64 f.b]
def fcells (f : Pl.Fct) : List Value := [.bool f.e, .int .i64 f.a, .int .i64 f.b]

/-- A struct's box behind a call. -/
theorem box3 {w w' : World} {x y z : Value} {T : TypeId} (h : Grow (w.alloc (.cells #[x, y, z] T)) w') :
    w'.cell? ⟨w.heap.size, 0, none⟩ = some x ∧ w'.cell? ⟨w.heap.size, 1, none⟩ = some y ∧ w'.cell? ⟨w.heap.size, 2, none⟩ = some z :=
  ⟨h.cell (by rw [cell_of_row _ _ _ _ _ _ (heap_alloc_new w _)]; rfl), h.cell (by rw [cell_of_row _ _ _ _ _ _ (heap_alloc_new w _)]; rfl), h.cell (by rw [cell_of_row _ _ _ _ _ _ (heap_alloc_new w _)]; rfl)⟩
theorem box2 {w w' : World} {x y : Value} {T : TypeId} (h : Grow (w.alloc (.cells #[x, y] T)) w') :
    w'.cell? ⟨w.heap.size, 0, none⟩ = some x ∧ w'.cell? ⟨w.heap.size, 1, none⟩ = some y :=
  ⟨h.cell (by rw [cell_of_row _ _ _ _ _ _ (heap_alloc_new w _)]; rfl), h.cell (by rw [cell_of_row _ _ _ _ _ _ (heap_alloc_new w _)]; rfl)⟩
/-- A call that leaves the world as it is, in a region that draws its order. -/
theorem qcall {P : Program} {f : FuncId} {args : Array Value} {w : World} {n : Nat} {v : Value}
    (h : Calls P f args (w.drewN n) fun e w' => e = .returned v ∧ w.drewN n = w') : Calls P f args (w.drewN n) fun e w'' => e = .returned v ∧ ∃ m, w'' = w.drewN m :=
  h.mono fun _ _ hh => ⟨hh.1, n, hh.2.symm⟩

/-! ### Slices that read as lists -/
def Ints (w : World) (A : Option Addr) (l : List Int) : Prop :=
  l ≠ [] → ∃ b off, A = some ⟨b, off, none⟩ ∧ ∀ i (hi : i < l.length), w.cell? ⟨b, off + i, none⟩ = some (.int .i64 l[i])
theorem Ints.grow {w w' : World} {A : Option Addr} {l : List Int} (h : Ints w A l) (hg : Grow w w') : Ints w' A l := fun hl => by
  obtain ⟨b, off, hA, hc⟩ := h hl
  exact ⟨b, off, hA, fun i hi => hg.cell (hc i hi)⟩
theorem Ints.at_ {w : World} {A : Option Addr} {l : List Int} (h : Ints w A l) {k : Nat} (hk : k < l.length) : ∃ b off, A = some ⟨b, off, none⟩ ∧ w.cell? ⟨b, off + k, none⟩ = some (.int .i64 l[k]) := by
  obtain ⟨b, off, hA, hc⟩ := h (by rintro rfl; simp at hk)
  exact ⟨b, off, hA, hc k hk⟩
theorem Ints.nil (w : World) (A : Option Addr) : Ints w A [] := fun h => absurd rfl h
def Facts (w : World) (A : Option Addr) (l : List Pl.Fct) : Prop :=
  l ≠ [] → ∃ b off, A = some ⟨b, off, none⟩ ∧ ∀ i (hi : i < l.length), w.cell? ⟨b, off + i * 3, none⟩ = some (.bool l[i].e) ∧ w.cell? ⟨b, off + i * 3 + 1, none⟩ = some (.int .i64 l[i].a) ∧ w.cell? ⟨b, off + i * 3 + 2, none⟩ = some (.int .i64 l[i].b)
theorem Facts.grow {w w' : World} {A : Option Addr} {l : List Pl.Fct} (h : Facts w A l) (hg : Grow w w') : Facts w' A l := fun hl => by
  obtain ⟨b, off, hA, hc⟩ := h hl
  exact ⟨b, off, hA, fun i hi => ⟨hg.cell (hc i hi).1, hg.cell (hc i hi).2.1, hg.cell (hc i hi).2.2⟩⟩
theorem Facts.at_ {w : World} {A : Option Addr} {l : List Pl.Fct} (h : Facts w A l) {k : Nat} (hk : k < l.length) : ∃ b off, A = some ⟨b, off, none⟩ ∧
    w.cell? ⟨b, off + k * 3, none⟩ = some (.bool l[k].e) ∧ w.cell? ⟨b, off + k * 3 + 1, none⟩ = some (.int .i64 l[k].a) ∧ w.cell? ⟨b, off + k * 3 + 2, none⟩ = some (.int .i64 l[k].b) := by
  obtain ⟨b, off, hA, hc⟩ := h (by rintro rfl; simp at hk)
  exact ⟨b, off, hA, hc k hk⟩
theorem Facts.nil (w : World) (A : Option Addr) : Facts w A [] := fun h => absurd rfl h

/-! ### Lists of cells -/
theorem fcells_len (l : List Pl.Fct) : (l.flatMap fcells).length = l.length * 3 := by
  induction l with
  | nil => rfl
  | cons f l ih => rw [List.flatMap_cons, List.length_append, ih, List.length_cons, Nat.add_mul]; simp [fcells]; omega
theorem fcells_get (l : List Pl.Fct) : ∀ i (hi : i < l.length), (l.flatMap fcells)[i * 3]? = some (.bool l[i].e) ∧ (l.flatMap fcells)[i * 3 + 1]? = some (.int .i64 l[i].a) ∧ (l.flatMap fcells)[i * 3 + 2]? = some (.int .i64 l[i].b) := by
  induction l with
  | nil => intro i hi; simp at hi
  | cons f l ih =>
    intro i hi
    cases i with
    | zero => simp [fcells]
    | succ i =>
      have := ih i (by simpa using hi)
      rw [List.flatMap_cons, List.getElem?_append_right (by simp [fcells]; omega), List.getElem?_append_right (by simp [fcells]; omega), List.getElem?_append_right (by simp [fcells]; omega)]
      simp only [fcells, List.length_cons, List.length_nil, List.getElem_cons_succ]
      rw [show (i + 1) * 3 - (0 + 1 + 1 + 1) = i * 3 from by omega, show (i + 1) * 3 + 1 - (0 + 1 + 1 + 1) = i * 3 + 1 from by omega, show (i + 1) * 3 + 2 - (0 + 1 + 1 + 1) = i * 3 + 2 from by omega]
      exact this
theorem fcells_one (f : Pl.Fct) : ∀ u ∈ fcells f, u.oneCell' = true := by
  intro u hu
  simp only [fcells, List.mem_cons, List.not_mem_nil, or_false] at hu
  rcases hu with rfl | rfl | rfl <;> rfl
theorem fcellsL_one (l : List Pl.Fct) : ∀ u ∈ l.flatMap fcells, u.oneCell' = true := by
  intro u hu
  obtain ⟨f, _, hf⟩ := List.mem_flatMap.1 hu
  exact fcells_one f u hf
theorem take_snoc {α : Type} (l : List α) (k : Nat) (h : k < l.length) : l.take (k + 1) = l.take k ++ [l[k]] := List.take_succ_eq_append_getElem h
theorem take_eq_all {α : Type} {l : List α} {k : Nat} (h : ¬ k < l.length) : l.take k = l := List.take_of_length_le (by omega)

/-! ### Rows of the call's own -/
abbrev OInts (w : World) (lo : Nat) (v : Value) (l : List Int) : Prop := w.ownsRow lo 3 1 v l.length (l.map (.int .i64))
theorem own_grow {w w' : World} {lo E sz n : Nat} {v : Value} {xs : List Value} (h : w.ownsRow lo E sz v n xs) (hg : Grow w w') : w'.ownsRow lo E sz v n xs := by
  refine ⟨h.1, ?_⟩
  rcases h.2 with hn | ⟨g, cap, cur, hv, hb, hgg, rest⟩
  · exact .inl hn
  · exact .inr ⟨g, cap, cur, hv, hb, hg.heap hgg, rest⟩
theorem own_form {w : World} {lo E sz n : Nat} {v : Value} {xs : List Value} (h : w.ownsRow lo E sz v n xs) : ∃ A c, v = .slice A n c := by
  rcases h.2 with ⟨rfl, rfl⟩ | ⟨g, cap, cur, rfl, _⟩
  · exact ⟨_, _, rfl⟩
  · exact ⟨_, _, rfl⟩
theorem own_lo {w : World} {lo lo' E sz n : Nat} {v : Value} {xs : List Value} (h : w.ownsRow lo E sz v n xs) (hl : lo' ≤ lo) : w.ownsRow lo' E sz v n xs := by
  refine ⟨h.1, ?_⟩
  rcases h.2 with hn | ⟨g, cap, cur, hv, hb, rest⟩
  · exact .inl hn
  · exact .inr ⟨g, cap, cur, hv, by omega, rest⟩
theorem own_blk {w : World} {lo E sz n : Nat} {v : Value} {xs : List Value} (h : w.ownsRow lo E sz v n xs) : ∀ k, v.ownBlock = some k → lo ≤ k ∧ k < w.heap.size := h.lt
theorem own_kept {w w' : World} {lo E sz n : Nat} {v : Value} {xs : List Value} {row : Option Nat} (h : w.ownsRow lo E sz v n xs) (hg : w.grownBy w' row) (hne : ∀ k, v.ownBlock = some k → row ≠ some k) : w'.ownsRow lo E sz v n xs :=
  h.kept hg (by cases hv : v.ownBlock with
    | none => exact .inl rfl
    | some k => exact .inr fun e => hne k hv (by rw [← e]))
theorem own_cells {w : World} {lo E sz n c : Nat} {A : Option Addr} {xs : List Value} (h : w.ownsRow lo E sz (.slice A n c) n xs) (hx : xs ≠ []) : ∃ g, A = some ⟨g, 0, none⟩ ∧ lo ≤ g ∧ g < w.heap.size ∧ ∀ j u, xs[j]? = some u → w.cell? ⟨g, 0 + j, none⟩ = some u := by
  rcases h.2 with ⟨hv, rfl⟩ | ⟨g, cap, cur, hv, hb, hgg, _, _, hs, ht⟩
  · exfalso; apply hx; exact List.eq_nil_of_length_eq_zero (by rw [h.1]; omega)
  · injection hv with hA _ _
    subst hA
    refine ⟨g, rfl, hb, (Array.getElem?_eq_some_iff.1 hgg).1, fun j u hu => ?_⟩
    rw [Nat.zero_add, cell_of_row w g j cur E (0, 0) hgg]
    rw [← ht, List.getElem?_take] at hu
    split at hu
    · simpa using hu
    · cases hu
theorem OInts.ints {w : World} {lo n c : Nat} {A : Option Addr} {l : List Int} (hn : n = l.length) (h : OInts w lo (.slice A n c) l) : Ints w A l := by
  subst hn
  intro hl
  obtain ⟨g, hA, _, _, hc⟩ := own_cells h (by simpa using hl)
  exact ⟨g, 0, hA, fun i hi => hc i _ (by simp [hi])⟩

/-- A block of the call's own, n elements of sz cells, of which the first cells are xs. -/
def Part (w : World) (g E sz n : Nat) (xs : List Value) : Prop :=
  ∃ cur, w.heap[g]? = some (.cells cur E (0, 0)) ∧ cur.size = n * sz ∧ cur.toList.take xs.length = xs
theorem Part.grow {w w' : World} {g E sz n : Nat} {xs : List Value} (h : Part w g E sz n xs) (hg : Grow w w') : Part w' g E sz n xs := by
  obtain ⟨cur, h1, h2, h3⟩ := h
  exact ⟨cur, hg.heap h1, h2, h3⟩
theorem Part.kept {w w' : World} {g E sz n : Nat} {xs : List Value} {row : Option Nat} (h : Part w g E sz n xs) (hg : w.grownBy w' row) (hne : some g ≠ row) : Part w' g E sz n xs := by
  obtain ⟨cur, h1, h2, h3⟩ := h
  exact ⟨cur, (hg.block g (Array.getElem?_eq_some_iff.1 h1).1 hne).trans h1, h2, h3⟩
theorem Part.lt {w : World} {g E sz n : Nat} {xs : List Value} (h : Part w g E sz n xs) : g < w.heap.size := by
  obtain ⟨cur, h1, _⟩ := h
  exact (Array.getElem?_eq_some_iff.1 h1).1
theorem Part.made (w : World) (E sz n : Nat) (cs : Array Value) (h : cs.size = n * sz) : Part (w.alloc (.cells cs E)) w.heap.size E sz n [] := ⟨cs, heap_alloc_new w _, h, rfl⟩
theorem Part.cell {w : World} {g E sz n : Nat} {xs : List Value} (h : Part w g E sz n xs) {o : Nat} (ho : o < n * sz) : ∃ u, w.cell? ⟨g, o, none⟩ = some u := by
  obtain ⟨cur, h1, h2, _⟩ := h
  exact ⟨cur[o]'(by omega), by rw [cell_of_row w g o cur E (0, 0) h1, Array.getElem?_eq_getElem]⟩
theorem Part.frozen {w : World} {g E sz n : Nat} {xs : List Value} (h : Part w g E sz n xs) (o : Nat) : w.frozen? ⟨g, o, none⟩ = false := by
  obtain ⟨cur, h1, _⟩ := h
  simp [World.frozen?, h1]
theorem Part.step {w : World} {g E sz n : Nat} {xs : List Value} (h : Part w g E sz n xs) {o : Nat} (ho : o = xs.length) (hlt : o < n * sz) (u : Value) : Part (w.setCell ⟨g, o, none⟩ u) g E sz n (xs ++ [u]) := by
  obtain ⟨cur, h1, h2, h3⟩ := h
  refine ⟨cur.setIfInBounds o u, ?_, by simpa using h2, ?_⟩
  · simp [World.setCell, Array.getElem?_modify, h1]
  · rw [List.length_append, List.length_singleton, ← ho, List.take_add_one, Array.toList_setIfInBounds, List.take_set_of_le (by omega), List.getElem?_set_self (by simp; omega)]
    rw [ho, h3]; rfl
theorem Part.far {w : World} {g E sz n : Nat} {xs : List Value} (h : Part w g E sz n xs) {p : Addr} (hp : g ≠ p.block) (u : Value) : Part (w.setCell p u) g E sz n xs := by
  obtain ⟨cur, h1, h2, h3⟩ := h
  exact ⟨cur, (Below.heap_setCell w p u g hp).trans h1, h2, h3⟩
theorem Part.full {w : World} {g E sz n : Nat} {xs : List Value} (h : Part w g E sz n xs) (hl : xs.length = n * sz) {lo : Nat} (hlo : lo ≤ g) (hn : n ≤ maxLen) : w.ownsRow lo E sz (.slice (some ⟨g, 0, none⟩) n n) n xs := by
  obtain ⟨cur, h1, h2, h3⟩ := h
  exact ⟨hl, .inr ⟨g, n, cur, rfl, hlo, h1, Nat.le_refl _, hn, h2, by rw [← hl]; exact h3⟩⟩
theorem Part.cellAt {w : World} {g E sz n : Nat} {xs : List Value} (h : Part w g E sz n xs) {o : Nat} {u : Value} (hu : xs[o]? = some u) : w.cell? ⟨g, o, none⟩ = some u := by
  obtain ⟨cur, h1, h2, h3⟩ := h
  rw [cell_of_row w g o cur E (0, 0) h1]
  rw [← h3, List.getElem?_take] at hu
  split at hu
  · simpa using hu
  · cases hu
/-- A cell of an owned row is written. -/
theorem own_set {w : World} {lo E sz n c g : Nat} {xs : List Value} (h : w.ownsRow lo E sz (.slice (some ⟨g, 0, none⟩) n c) n xs) (o : Nat) (u : Value) : (w.setCell ⟨g, o, none⟩ u).ownsRow lo E sz (.slice (some ⟨g, 0, none⟩) n c) n (xs.set o u) := (h.stored o u).1
theorem own_cellAt {w : World} {lo E sz n c g : Nat} {xs : List Value} (h : w.ownsRow lo E sz (.slice (some ⟨g, 0, none⟩) n c) n xs) {o : Nat} {u : Value} (hu : xs[o]? = some u) : w.cell? ⟨g, o, none⟩ = some u := by
  have hl : o < xs.length := (List.getElem?_eq_some_iff.1 hu).1
  rw [h.cellAt o (by rw [← h.1]; exact hl)]; exact hu
theorem only_setCell {a w : World} {g : Nat} (h : a.grownBy w (some g)) (o : Nat) (u : Value) : a.grownBy (w.setCell ⟨g, o, none⟩ u) (some g) :=
  ⟨h.os, h.tape, h.output, by simpa [World.setCell] using h.size, fun i hi hne => (Below.heap_setCell w _ u i (by
    rintro rfl; exact hne rfl)).trans (h.block i hi hne)⟩

theorem own_some {w : World} {lo E sz n c : Nat} {A : Option Addr} {xs : List Value} (h : w.ownsRow lo E sz (.slice A n c) n xs) (hn : 0 < n) : ∃ g, A = some ⟨g, 0, none⟩ ∧ lo ≤ g ∧ g < w.heap.size := by
  rcases h.2 with ⟨_, rfl⟩ | ⟨g, cap, cur, hv, hb, hgg, _⟩
  · omega
  · injection hv with hA _ _
    exact ⟨g, hA, hb, (Array.getElem?_eq_some_iff.1 hgg).1⟩
theorem news_one (w : World) (u : Value) (T : TypeId) : ∀ j v, [u][j]? = some v → (w.alloc (.cells #[u] T)).cell? ((⟨w.heap.size, 0, none⟩ : Addr).add j) = some v := by
  intro j v h
  match j, h with
  | 0, h =>
    simp at h; subst h
    show (w.alloc (.cells #[u] T)).cell? ⟨w.heap.size, 0, none⟩ = _
    rw [cell_of_row _ _ _ _ _ _ (heap_alloc_new w _)]; rfl

theorem run_make_rows {P : Program} (t e : TypeId) (i : TypeInfo) (z : Value) (ht : P.underlying t = some (.slice e)) (hi : P.info? e = some i) (hz : i.zero = some z)
    (kl kc : IntKind) (n c : Nat) (hnc : n ≤ c) (hbytes : i.bytes * c ≤ 281474976710656) (h63 : c ≤ 9223372036854775807) (w : World) :
    (Instr.makeSlice t (.int kl (n : Int)) (.int kc (c : Int))).run P w = .ok (.slice (some ⟨w.heap.size, 0, none⟩) n c) (w.alloc (.cells (madeCells z.cells (c * i.size)) e)) := by
  have hb : (i.bytes : Int) * (c : Int) ≤ 281474976710656 := by
    have h : ((i.bytes * c : Nat) : Int) ≤ 281474976710656 := by omega
    rwa [Int.natCast_mul] at h
  have hr := run_make (P := P) w t e i z ht hi hz kl kc n c (by omega) (by omega) hb (by omega)
  simp only [Int.toNat_natCast] at hr
  exact hr

theorem int_info : (Tryd.prog.info? 3).map (fun i => (i.zero, i.size, i.bytes)) = some (some (.int .i64 0), 1, 8) := by kernel_rfl

theorem fact_info : (Tryd.prog.info? 78).map (fun i => (i.zero, i.size, i.bytes)) = some (some (.agg #[.bool false, .int .i64 0, .int .i64 0]), 3, 24) := by kernel_rfl
abbrev OFacts (w : World) (lo : Nat) (v : Value) (l : List Pl.Fct) : Prop := w.ownsRow lo 78 3 v l.length (l.flatMap fcells)
theorem OFacts.facts {w : World} {lo n c : Nat} {A : Option Addr} {l : List Pl.Fct} (hn : n = l.length) (h : OFacts w lo (.slice A n c) l) : Facts w A l := by
  subst hn
  intro hl
  obtain ⟨g, hA, _, _, hc⟩ := own_cells h (by intro h0; apply hl; have := fcells_len l; rw [h0] at this; exact List.eq_nil_of_length_eq_zero (by simp at this; omega))
  refine ⟨g, 0, hA, fun i hi => ?_⟩
  obtain ⟨h0, h1, h2⟩ := fcells_get l i hi
  exact ⟨hc _ _ h0, by rw [Nat.add_assoc]; exact hc _ _ h1, by rw [Nat.add_assoc]; exact hc _ _ h2⟩

end Go.Proofs.YtifdefkkofngoaaDoor
