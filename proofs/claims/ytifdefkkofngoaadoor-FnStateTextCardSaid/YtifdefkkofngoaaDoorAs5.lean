/- Contracts of conjunctions of assertions, in the program and in the reference. Conditions: the lengths are far from Go's bounds. -/
import Derived.Test.YtifdefkkofngoaaDoorAs4
namespace Go.Proofs.YtifdefkkofngoaaDoor
open Go.RowKit
set_option linter.unusedVariables false

/-- What comes back: an assertion in new memory, and a Bool. -/
def RAs (w : World) (r : Pl.Asr × Bool) (e : Ending) (w' : World) : Prop := ∃ A B c d, e = .returned (.tuple #[asval A B c d r.1, .bool r.2]) ∧ OAs w' w.heap.size A B c d r.1 ∧ Grow w w'
theorem RAs.no {w w' : World} {r : Pl.Asr × Bool} {e : Ending} (hr : r = (Pl.noA, false)) (he : e = .returned (.tuple #[.agg #[.slice none 0 0, .slice none 0 0], .bool false])) (hg : Grow w w') : RAs w r e w' := by
  subst hr; exact ⟨none, none, 0, 0, he, OAs.emp _ _, hg⟩



theorem l3Copy_c (A B : Option Addr) (c d : Nat) (s : Pl.Asr) (w : World) (hS : Asrs w A B s) (h1 : s.f.length ≤ 4194304) (h2 : s.a.length ≤ 4194304) :
    Calls Tryd.prog 117 #[asval A B c d s] w fun e w' => ∃ A' B' c' d', e = .returned (asval A' B' c' d' s) ∧ OAs w' w.heap.size A' B' c' d' s ∧ Grow w w' := by
  obtain ⟨v, h⟩ := s
  replace h1 : v.length ≤ 4194304 := h1
  replace h2 : h.length ≤ 4194304 := h2
  have y1 := Box2.new w 46 (.slice A v.length c) (.slice B h.length d)
  have y2 := Box2.new (w.alloc (.cells #[.slice A v.length c, .slice B h.length d] 46)) 46 (.slice none 0 0) (.slice none 0 0)
  have hG : Grow w ((w.alloc (.cells #[.slice A v.length c, .slice B h.length d] 46)).alloc (.cells #[.slice none 0 0, .slice none 0 0] 46)) := (by repeat (first | exact Grow.refl _ | assumption | refine Grow.alloc ?_ _ | refine Grow.drew ?_ | refine Grow.drewN ?_ _ | refine Grow.trans ?_ (by assumption) | refine Grow.below ?_ (by assumption) (by first | exact Nat.le_refl _ | omega)))
  replace y1 := y1.grow (show Grow _ ((w.alloc (.cells #[.slice A v.length c, .slice B h.length d] 46)).alloc (.cells #[.slice none 0 0, .slice none 0 0] 46)) from (by repeat (first | exact Grow.refl _ | assumption | refine Grow.alloc ?_ _ | refine Grow.drew ?_ | refine Grow.drewN ?_ _ | refine Grow.trans ?_ (by assumption) | refine Grow.below ?_ (by assumption) (by first | exact Nat.le_refl _ | omega))))
  have hsz : ((w.alloc (.cells #[.slice A v.length c, .slice B h.length d] 46)).alloc (.cells #[.slice none 0 0, .slice none 0 0] 46)).heap.size = w.heap.size + 1 + 1 := by simp
  simp only [World.size_alloc] at y2
  have HSZ := Lib.hid hsz
  clear hsz
  go_enter Tryd.func117, Tryd.ntmps117
  obtain ⟨k0, k1, _, _⟩ := y1.facts
  go_wp2_with fail
  generalize (w.alloc (.cells #[.slice A v.length c, .slice B h.length d] 46)).alloc (.cells #[.slice none 0 0, .slice none 0 0] 46) = w0 at *
  have hS0 := hS.grow hG
  have C := l3Star_c A B none none c d 0 0 ⟨v, h⟩ Pl.noA w0 hS0 ⟨Facts.nil _ _, Atoms.nil _ _⟩ h1 h2 (by simp) (by simp)
  rw [Pl.join_nil] at C
  refine C.mono ?_
  rintro e w1 ⟨A1, B1, c1, d1, rfl, o1, g1⟩
  clear C k0 k1
  replace y2 := y2.grow g1
  have hlt := y2.lt
  replace hG := hG.trans g1
  have hz := HSZ.out
  clear g1
  obtain ⟨j0, j1, _, _⟩ := y2.facts
  go_wp2_with fail
  refine bodyPost_ret (v := .agg #[.slice A1 v.length c1, .slice B1 h.length d1]) (by simp [results, Tryd.results117, go_sem, j0, j1]) rfl ?_
  refine ⟨A1, B1, c1, d1, rfl, ?_, ?_⟩
  · exact ((o1.far (by show w.heap.size + 1 < _; omega) _).far (by show w.heap.size + 1 < _; omega) _).lo (by omega)
  · exact (hG.setCell (by show w.heap.size ≤ w.heap.size + 1; omega) _).setCell (by show w.heap.size ≤ w.heap.size + 1; omega) _

end Go.Proofs.YtifdefkkofngoaaDoor
