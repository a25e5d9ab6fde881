/- Words for states in memory; contracts of the tests of addresses and values, of reading a cell, of the laws' own conversions and marks of states. No conditions but Go's own bounds. -/
import Derived.Test.YtifdefkkofngoaaDoorMark
import Derived.Test.YtifdefkkofngoaaDoorApp
import Derived.Test.YtifdefkkofngoaaDoorPlainAll
namespace Go.Proofs.YtifdefkkofngoaaDoor
open Go.RowKit
set_option linter.unusedVariables false

/-- A state that can be read. -/
structure Sts (w : World) (A B : Option Addr) (s : Pl.St) : Prop where
  v : Ints w A s.v
  h : Ints w B s.h
theorem Sts.grow {w w' : World} {A B : Option Addr} {s : Pl.St} (k : Sts w A B s) (g : Grow w w') : Sts w' A B s := ⟨k.v.grow g, k.h.grow g⟩
/-- A state in two rows of the call's own. -/
structure OSt (w : World) (lo : Nat) (A B : Option Addr) (c d : Nat) (s : Pl.St) : Prop where
  v : OInts w lo (.slice A s.v.length c) s.v
  h : OInts w lo (.slice B s.h.length d) s.h
  ap : ∀ k, (Value.slice A s.v.length c).ownBlock = some k → (Value.slice B s.h.length d).ownBlock ≠ some k
theorem OSt.st {w : World} {lo : Nat} {A B : Option Addr} {c d : Nat} {s : Pl.St} (k : OSt w lo A B c d s) : Sts w A B s := ⟨OInts.ints rfl k.v, OInts.ints rfl k.h⟩
theorem OSt.grow {w w' : World} {lo : Nat} {A B : Option Addr} {c d : Nat} {s : Pl.St} (k : OSt w lo A B c d s) (g : Grow w w') : OSt w' lo A B c d s := ⟨own_grow k.v g, own_grow k.h g, k.ap⟩
theorem OSt.lo {w : World} {lo lo' : Nat} {A B : Option Addr} {c d : Nat} {s : Pl.St} (k : OSt w lo A B c d s) (h : lo' ≤ lo) : OSt w lo' A B c d s := ⟨own_lo k.v h, own_lo k.h h, k.ap⟩
theorem OSt.emp (w : World) (lo : Nat) : OSt w lo none none 0 0 Pl.emp := ⟨⟨rfl, .inl ⟨rfl, rfl⟩⟩, ⟨rfl, .inl ⟨rfl, rfl⟩⟩, fun k h => by cases h⟩
/-- Behind a step that writes one row alone, neither of these. -/
theorem OSt.kept {w w' : World} {lo : Nat} {A B : Option Addr} {c d : Nat} {s : Pl.St} {row : Option Nat} (k : OSt w lo A B c d s) (g : w.grownBy w' row) (hr : ∀ k, row = some k → k < lo ∨ w.heap.size ≤ k) : OSt w' lo A B c d s :=
  ⟨apart_kept k.v (Grow.refl _) g hr, apart_kept k.h (Grow.refl _) g hr, k.ap⟩
abbrev sval (A B : Option Addr) (c d : Nat) (s : Pl.St) : Value := .agg #[.slice A s.v.length c, .slice B s.h.length d]

theorem isValue_c (t : Int) (w : World) : Calls Tryd.prog 55 #[.int .i64 t] w fun e w' => e = .returned (.bool (Pl.vlB t)) ∧ w = w' := by
  by_cases h1 : 0 ≤ t
  · by_cases h2 : t ≤ 8
    · have H := Lib.hid ((Pl.vlB_iff t).2 ⟨h1, h2⟩)
      go_enter Tryd.func55, Tryd.ntmps55
      go_wp2
      go_ret
      exact ⟨by rw [H.out]; rfl, rfl⟩
    · have H := Lib.hid (Bool.eq_false_iff.2 fun h => h2 ((Pl.vlB_iff t).1 h).2)
      go_enter Tryd.func55, Tryd.ntmps55
      go_wp2
      go_ret
      exact ⟨by rw [H.out]; rfl, rfl⟩
  · have H := Lib.hid (Bool.eq_false_iff.2 fun h => h1 ((Pl.vlB_iff t).1 h).1)
    go_enter Tryd.func55, Tryd.ntmps55
    go_wp2
    go_ret
    exact ⟨by rw [H.out]; rfl, rfl⟩

theorem l2Addr_c (t : Int) (w : World) : Calls Tryd.prog 56 #[.int .i64 t] w fun e w' => e = .returned (.bool (Pl.vlB t)) ∧ w = w' := by
  by_cases h1 : 0 ≤ t
  · by_cases h2 : t ≤ 8
    · have H := Lib.hid ((Pl.vlB_iff t).2 ⟨h1, h2⟩)
      go_enter Tryd.func56, Tryd.ntmps56
      go_wp2
      go_ret
      exact ⟨by rw [H.out]; rfl, rfl⟩
    · have H := Lib.hid (Bool.eq_false_iff.2 fun h => h2 ((Pl.vlB_iff t).1 h).2)
      go_enter Tryd.func56, Tryd.ntmps56
      go_wp2
      go_ret
      exact ⟨by rw [H.out]; rfl, rfl⟩
  · have H := Lib.hid (Bool.eq_false_iff.2 fun h => h1 ((Pl.vlB_iff t).1 h).1)
    go_enter Tryd.func56, Tryd.ntmps56
    go_wp2
    go_ret
    exact ⟨by rw [H.out]; rfl, rfl⟩

/-! ### A box of two cells -/
def Box2 (w : World) (g E : Nat) (x y : Value) : Prop := w.heap[g]? = some (.cells #[x, y] E (0, 0))
theorem Box2.new (w : World) (E : Nat) (x y : Value) : Box2 (w.alloc (.cells #[x, y] E)) w.heap.size E x y := heap_alloc_new w _
theorem Box2.grow {w w' : World} {g E : Nat} {x y : Value} (h : Box2 w g E x y) (k : Grow w w') : Box2 w' g E x y := k.heap h
theorem Box2.lt {w : World} {g E : Nat} {x y : Value} (h : Box2 w g E x y) : g < w.heap.size := (Array.getElem?_eq_some_iff.1 h).1
theorem Box2.facts {w : World} {g E : Nat} {x y : Value} (h : Box2 w g E x y) : w.cell? ⟨g, 0, none⟩ = some x ∧ w.cell? ⟨g, 1, none⟩ = some y ∧ w.frozen? ⟨g, 0, none⟩ = false ∧ w.frozen? ⟨g, 1, none⟩ = false := by
  unfold Box2 at h
  refine ⟨by rw [cell_of_row w g 0 _ _ (0, 0) h]; rfl, by rw [cell_of_row w g 1 _ _ (0, 0) h]; rfl, ?_, ?_⟩ <;> simp [World.frozen?, h]
theorem Box2.set0 {w : World} {g E : Nat} {x y : Value} (h : Box2 w g E x y) (u : Value) : Box2 (w.setCell ⟨g, 0, none⟩ u) g E u y := by
  unfold Box2 at h ⊢; simp [World.setCell, Array.getElem?_modify, h]
theorem Box2.set1 {w : World} {g E : Nat} {x y : Value} (h : Box2 w g E x y) (u : Value) : Box2 (w.setCell ⟨g, 1, none⟩ u) g E x u := by
  unfold Box2 at h ⊢; simp [World.setCell, Array.getElem?_modify, h]
theorem Box2.far {w : World} {g E : Nat} {x y : Value} (h : Box2 w g E x y) {p : Addr} (hp : g ≠ p.block) (u : Value) : Box2 (w.setCell p u) g E x y := (Below.heap_setCell w p u g hp).trans h
theorem Box2.kept {w w' : World} {g E : Nat} {x y : Value} {row : Option Nat} (h : Box2 w g E x y) (hg : w.grownBy w' row) (hne : row ≠ some g) : Box2 w' g E x y := (hg.block g h.lt (fun e => hne e.symm)).trans h
/-- A row of the call's own, behind a store elsewhere. -/
theorem own_far {w : World} {lo E sz n : Nat} {v : Value} {xs : List Value} (h : w.ownsRow lo E sz v n xs) {p : Addr} (hp : ∀ k, v.ownBlock = some k → p.block ≠ k) (u : Value) : (w.setCell p u).ownsRow lo E sz v n xs := by
  obtain ⟨h1, h2⟩ := h
  refine ⟨h1, ?_⟩
  rcases h2 with hn | ⟨g, cap, cur, hv, hb, hgg, rest⟩
  · exact .inl hn
  · refine .inr ⟨g, cap, cur, hv, hb, (Below.heap_setCell w p u g (fun e => ?_)).trans hgg, rest⟩
    exact hp g (by rw [hv]; rfl) e.symm
theorem own_far_lo {w : World} {lo E sz n : Nat} {v : Value} {xs : List Value} (h : w.ownsRow lo E sz v n xs) {p : Addr} (hp : p.block < lo) (u : Value) : (w.setCell p u).ownsRow lo E sz v n xs :=
  own_far h (fun k hk e => by have := own_blk h k hk; omega) u
theorem OSt.far {w : World} {lo : Nat} {A B : Option Addr} {c d : Nat} {s : Pl.St} (k : OSt w lo A B c d s) {p : Addr} (hp : p.block < lo) (u : Value) : OSt (w.setCell p u) lo A B c d s := ⟨own_far_lo k.v hp u, own_far_lo k.h hp u, k.ap⟩
theorem Sts.kept {w w' : World} {A B : Option Addr} {s : Pl.St} {lo : Nat} (k : Sts w A B s) (g : Below lo w w') (hl : w.heap.size ≤ lo) : Sts w' A B s := k.grow (g.mono hl)

set_option maxHeartbeats 400000 in
theorem toState_c (A B : Option Addr) (c d : Nat) (s : Pl.St) (w : World) (hS : Sts w A B s) (hv : s.v.length ≤ 1048576) (hh : s.h.length ≤ 1048576) :
    Calls Tryd.prog 11 #[sval A B c d s] w fun e w' => ∃ A' B' c' d', e = .returned (sval A' B' c' d' s) ∧ OSt w' w.heap.size A' B' c' d' s ∧ Grow w w' := by
  obtain ⟨v, h⟩ := s
  have y1 := Box2.new w 24 (.slice A v.length c) (.slice B h.length d)
  have y2 := Box2.new (w.alloc (.cells #[.slice A v.length c, .slice B h.length d] 24)) 27 (.slice none 0 0) (.slice none 0 0)
  have y3 := Box2.new ((w.alloc (.cells #[.slice A v.length c, .slice B h.length d] 24)).alloc (.cells #[.slice none 0 0, .slice none 0 0] 27)) 27 (.slice none 0 0) (.slice none 0 0)
  simp only [World.size_alloc] at y2 y3
  go_enter Tryd.func11, Tryd.ntmps11
  go_wp2_with fail
  refine (toIntS_c A c v _ (hS.v.grow (by repeat (first | exact Grow.refl _ | assumption | refine Grow.alloc ?_ _ | refine Grow.drew ?_ | refine Grow.drewN ?_ _ | refine Grow.trans ?_ (by assumption) | refine Grow.below ?_ (by assumption) (by first | exact Nat.le_refl _ | omega)))) hv).mono ?_
  rintro e w1 ⟨A1, c1, rfl, o1, g1⟩
  have y1 := y1.grow (show Grow _ w1 from (by repeat (first | exact Grow.refl _ | assumption | refine Grow.alloc ?_ _ | refine Grow.drew ?_ | refine Grow.drewN ?_ _ | refine Grow.trans ?_ (by assumption) | refine Grow.below ?_ (by assumption) (by first | exact Nat.le_refl _ | omega))))
  have y2 := y2.grow (show Grow _ w1 from (by repeat (first | exact Grow.refl _ | assumption | refine Grow.alloc ?_ _ | refine Grow.drew ?_ | refine Grow.drewN ?_ _ | refine Grow.trans ?_ (by assumption) | refine Grow.below ?_ (by assumption) (by first | exact Nat.le_refl _ | omega))))
  have y3 := y3.grow g1
  have G1 : Grow w w1 := (by repeat (first | exact Grow.refl _ | assumption | refine Grow.alloc ?_ _ | refine Grow.drew ?_ | refine Grow.drewN ?_ _ | refine Grow.trans ?_ (by assumption) | refine Grow.below ?_ (by assumption) (by first | exact Nat.le_refl _ | omega)))
  simp only [World.size_alloc] at o1
  obtain ⟨k0, k1, f0, f1⟩ := y3.facts
  obtain ⟨q0, q1, _, _⟩ := y1.facts
  have z3 := y3.set0 (.slice A1 v.length c1)
  have z2 := y2.far (p := ⟨w.heap.size + 1 + 1, 0, none⟩) (by show w.heap.size + 1 ≠ w.heap.size + 1 + 1; omega) (.slice A1 v.length c1)
  have z1 := y1.far (p := ⟨w.heap.size + 1 + 1, 0, none⟩) (by show w.heap.size ≠ w.heap.size + 1 + 1; omega) (.slice A1 v.length c1)
  have u1 := own_far_lo o1 (p := ⟨w.heap.size + 1 + 1, 0, none⟩) (by show w.heap.size + 1 + 1 < _; omega) (.slice A1 v.length c1)
  have G2 : Grow w (w1.setCell ⟨w.heap.size + 1 + 1, 0, none⟩ (.slice A1 v.length c1)) := G1.setCell (by show w.heap.size ≤ w.heap.size + 1 + 1; omega) _
  go_wp2_with fail
  generalize w1.setCell ⟨w.heap.size + 1 + 1, 0, none⟩ (.slice A1 v.length c1) = w2 at *
  clear k0 k1 f0 f1 q0 q1 y1 y2 y3 o1 G1 g1
  refine (toIntS_c B d h _ (hS.h.grow G2) hh).mono ?_
  rintro e w3 ⟨B3, d3, rfl, o3, g3⟩
  have o1 := own_grow u1 g3
  have hs2 := z3.lt
  have y2 := z2.grow g3
  have y3 := z3.grow g3
  obtain ⟨k0, k1, f0, f1⟩ := y3.facts
  obtain ⟨j0, j1, e0, e1⟩ := y2.facts
  have G3 : Grow w w3 := (by repeat (first | exact Grow.refl _ | assumption | refine Grow.alloc ?_ _ | refine Grow.drew ?_ | refine Grow.drewN ?_ _ | refine Grow.trans ?_ (by assumption) | refine Grow.below ?_ (by assumption) (by first | exact Nat.le_refl _ | omega)))
  clear z1 z2 z3 G2 g3
  go_wp2
  refine bodyPost_ret (v := .agg #[.slice A1 v.length c1, .slice B3 h.length d3]) (by simp [results, Tryd.results11, go_sem, j0, j1]) rfl ⟨A1, B3, c1, d3, rfl, ?_, ?_⟩
  · have b1 := own_blk u1
    have b3 := own_blk o3
    exact ⟨own_lo (own_far_lo (own_far_lo (own_far_lo o1 (by show w.heap.size + 1 + 1 < _; omega) _) (by show w.heap.size + 1 < _; omega) _) (by show w.heap.size + 1 < _; omega) _) (by omega),
      own_lo (own_far_lo (own_far_lo (own_far_lo o3 (by show w.heap.size + 1 + 1 < _; omega) _) (by show w.heap.size + 1 < _; omega) _) (by show w.heap.size + 1 < _; omega) _) (by omega),
      fun k h1 h2 => by have := b1 k h1; have := b3 k h2; omega⟩
  · exact (((G3.setCell (by show w.heap.size ≤ w.heap.size + 1 + 1; omega) _).setCell (by show w.heap.size ≤ w.heap.size + 1; omega) _).setCell (by show w.heap.size ≤ w.heap.size + 1; omega) _)

theorem eqState_c (A B A' B' : Option Addr) (c d c' d' : Nat) (s t : Pl.St) (w : World) (hS : Sts w A B s) (hT : Sts w A' B' t) (h1 : s.v.length ≤ 4194304) (h2 : s.h.length ≤ 4194304) (h3 : t.v.length ≤ 4194304) (h4 : t.h.length ≤ 4194304) :
    Calls Tryd.prog 13 #[sval A B c d s, sval A' B' c' d' t] w fun e w' => e = .returned (.bool (decide (s = t))) ∧ Grow w w' := by
  obtain ⟨v, h⟩ := s
  obtain ⟨v', h'⟩ := t
  have hst : decide ((⟨v, h⟩ : Pl.St) = ⟨v', h'⟩) = (decide (v = v') && decide (h = h')) := by rw [Bool.eq_iff_iff]; simp
  have HE := Lib.hid hst
  clear hst
  have y1 := Box2.new w 27 (.slice A v.length c) (.slice B h.length d)
  have y2 := Box2.new (w.alloc (.cells #[.slice A v.length c, .slice B h.length d] 27)) 27 (.slice A' v'.length c') (.slice B' h'.length d')
  simp only [World.size_alloc] at y2
  go_enter Tryd.func13, Tryd.ntmps13
  go_wp2_with fail
  refine (eqIntS_c A A' c c' v v' _ (hS.v.grow (by repeat (first | exact Grow.refl _ | assumption | refine Grow.alloc ?_ _ | refine Grow.drew ?_ | refine Grow.drewN ?_ _ | refine Grow.trans ?_ (by assumption) | refine Grow.below ?_ (by assumption) (by first | exact Nat.le_refl _ | omega)))) (hT.v.grow (by repeat (first | exact Grow.refl _ | assumption | refine Grow.alloc ?_ _ | refine Grow.drew ?_ | refine Grow.drewN ?_ _ | refine Grow.trans ?_ (by assumption) | refine Grow.below ?_ (by assumption) (by first | exact Nat.le_refl _ | omega)))) (by omega) (by omega)).mono ?_
  rintro e w1 ⟨rfl, g1⟩
  have y1 := y1.grow (show Grow _ w1 from (by repeat (first | exact Grow.refl _ | assumption | refine Grow.alloc ?_ _ | refine Grow.drew ?_ | refine Grow.drewN ?_ _ | refine Grow.trans ?_ (by assumption) | refine Grow.below ?_ (by assumption) (by first | exact Nat.le_refl _ | omega))))
  have y2 := y2.grow (show Grow _ w1 from (by repeat (first | exact Grow.refl _ | assumption | refine Grow.alloc ?_ _ | refine Grow.drew ?_ | refine Grow.drewN ?_ _ | refine Grow.trans ?_ (by assumption) | refine Grow.below ?_ (by assumption) (by first | exact Nat.le_refl _ | omega))))
  obtain ⟨k0, k1, _, _⟩ := y1.facts
  obtain ⟨q0, q1, _, _⟩ := y2.facts
  by_cases hv : v = v'
  · have HV := Lib.hid (decide_eq_true hv)
    clear hv
    rw [HV.out]
    go_wp2_with fail
    refine (eqIntS_c B B' d d' h h' _ (hS.h.grow (by repeat (first | exact Grow.refl _ | assumption | refine Grow.alloc ?_ _ | refine Grow.drew ?_ | refine Grow.drewN ?_ _ | refine Grow.trans ?_ (by assumption) | refine Grow.below ?_ (by assumption) (by first | exact Nat.le_refl _ | omega)))) (hT.h.grow (by repeat (first | exact Grow.refl _ | assumption | refine Grow.alloc ?_ _ | refine Grow.drew ?_ | refine Grow.drewN ?_ _ | refine Grow.trans ?_ (by assumption) | refine Grow.below ?_ (by assumption) (by first | exact Nat.le_refl _ | omega)))) (by omega) (by omega)).mono ?_
    rintro e w2 ⟨rfl, g2⟩
    by_cases hh : h = h'
    · have HH := Lib.hid (decide_eq_true hh)
      clear hh
      rw [HH.out]
      go_wp2_with fail
      go_ret
      exact ⟨by rw [HE.out, HV.out, HH.out]; rfl, (by repeat (first | exact Grow.refl _ | assumption | refine Grow.alloc ?_ _ | refine Grow.drew ?_ | refine Grow.drewN ?_ _ | refine Grow.trans ?_ (by assumption) | refine Grow.below ?_ (by assumption) (by first | exact Nat.le_refl _ | omega)))⟩
    · have HH := Lib.hid (decide_eq_false hh)
      clear hh
      rw [HH.out]
      go_wp2_with fail
      go_ret
      exact ⟨by rw [HE.out, HV.out, HH.out]; rfl, (by repeat (first | exact Grow.refl _ | assumption | refine Grow.alloc ?_ _ | refine Grow.drew ?_ | refine Grow.drewN ?_ _ | refine Grow.trans ?_ (by assumption) | refine Grow.below ?_ (by assumption) (by first | exact Nat.le_refl _ | omega)))⟩
  · have HV := Lib.hid (decide_eq_false hv)
    clear hv
    rw [HV.out]
    go_wp2_with fail
    go_ret
    exact ⟨by rw [HE.out, HV.out]; rfl, (by repeat (first | exact Grow.refl _ | assumption | refine Grow.alloc ?_ _ | refine Grow.drew ?_ | refine Grow.drewN ?_ _ | refine Grow.trans ?_ (by assumption) | refine Grow.below ?_ (by assumption) (by first | exact Nat.le_refl _ | omega)))⟩

end Go.Proofs.YtifdefkkofngoaaDoor
