/- The draws of the arguments of the laws of states. No conditions. -/
import Derived.Test.YtifdefkkofngoaaDoorDrawS
namespace Go.Proofs.YtifdefkkofngoaaDoor
open Go.RowKit
set_option linter.unusedVariables false

/-- A state was drawn, and numbers beside it. -/
def Drawn (w : World) (e : Ending) (w' : World) : Prop := ∃ A B c d v h, e = .returned (sval A B c d ⟨v, h⟩) ∧ OSt w' w.heap.size A B c d ⟨v, h⟩ ∧ (v.length ≤ 8 ∧ h.length ≤ 9) ∧ Grow w w'
def Drawn1 (w : World) (e : Ending) (w' : World) : Prop := ∃ A B c d v h, ∃ a : Int, e = .returned (.tuple #[sval A B c d ⟨v, h⟩, .int .i64 a]) ∧ OSt w' w.heap.size A B c d ⟨v, h⟩ ∧ (v.length ≤ 8 ∧ h.length ≤ 9) ∧ (-1 ≤ a ∧ a ≤ 9) ∧ Grow w w'
def Drawn2 (w : World) (e : Ending) (w' : World) : Prop := ∃ A B c d v h, ∃ a b : Int, e = .returned (.tuple #[sval A B c d ⟨v, h⟩, .int .i64 a, .int .i64 b]) ∧ OSt w' w.heap.size A B c d ⟨v, h⟩ ∧ (v.length ≤ 8 ∧ h.length ≤ 9) ∧ (-1 ≤ a ∧ a ≤ 9) ∧ (-1 ≤ b ∧ b ≤ 9) ∧ Grow w w'


set_option maxRecDepth 100000 in
set_option maxHeartbeats 1600000 in
theorem DrawStateValid_c (A : Option Addr) (n c : Nat) (w : World) (hb : Bytes w A n) (hn : n ≤ 9223372036854775807) (hc : n ≤ c) :
    Calls Tryd.prog 54 #[.slice A n c] w (Drawn w) := by
  have y0 := Box2.new w 27 (.slice none 0 0) (.slice none 0 0)
  go_enter Tryd.func54, Tryd.ntmps54
  go_wp2_with fail
  refine (l18Open_c A n c _ (hb.grow (by repeat (first | exact Grow.refl _ | assumption | refine Grow.alloc ?_ _ | refine Grow.drew ?_ | refine Grow.drewN ?_ _ | refine Grow.trans ?_ (by assumption) | refine Grow.below ?_ (by assumption) (by first | exact Nat.le_refl _ | omega)))) hn hc).mono ?_
  rintro e w1 ⟨g, rfl, hr1, hgl, g1⟩
  simp only [World.size_alloc] at hgl
  have y0 := y0.grow g1
  have hG1 : Grow w w1 := (by repeat (first | exact Grow.refl _ | assumption | refine Grow.alloc ?_ _ | refine Grow.drew ?_ | refine Grow.drewN ?_ _ | refine Grow.trans ?_ (by assumption) | refine Grow.below ?_ (by assumption) (by first | exact Nat.le_refl _ | omega)))
  have hs1 := y0.lt
  clear g1 hb
  go_wp2_with fail
  refine (l2Draw_c g 0 _ hr1 (by omega)).mono ?_
  rintro e w2 ⟨⟨A2, B2, c2, d2, v2, h2, rfl, o2, hv2, hh2⟩, hr2, b2⟩
  have y0 := y0.kept b2 (by intro e; injection e with e; omega)
  have hG2 : Grow w w2 := hG1.grown b2 (fun k hk => by injection hk with hk; omega)
  have hs2 := b2.size
  have S2 : Sts w2 A2 B2 ⟨v2, h2⟩ := o2.st
  have hlv : v2.length ≤ 8 := by omega
  have hlh : h2.length ≤ 8 := by omega
  clear b2 hr1 hG1 o2 hv2 hh2
  go_wp2_with fail
  refine (l2Mutate_c g _ A2 B2 c2 d2 ⟨v2, h2⟩ _ hr2 (by omega) S2 (by show v2.length ≤ _; omega) (by show h2.length ≤ _; omega)).mono ?_
  rintro e w3 ⟨⟨A3, B3, c3, d3, v, h, rfl, o3, hv, hh⟩, hr3, b3⟩
  have y0 := y0.kept b3 (by intro e; injection e with e; omega)
  have hG : Grow w w3 := hG2.grown b3 (fun k hk => by injection hk with hk; omega)
  have hs3 := b3.size
  have hv8 : v.length ≤ 8 := Nat.le_trans hv hlv
  have hh9 : h.length ≤ 9 := Nat.le_trans hh (by show h2.length + 1 ≤ 9; omega)
  have hlt3 := y0.lt
  have hg3 := hr3.lt
  have hg2 := hr2.lt
  clear b3 hr2 hG2 S2 hv hh hlv hlh
  obtain ⟨j0, j1, e0, e1⟩ := y0.facts
  go_wp2_with fail
  refine bodyPost_ret (v := sval A3 B3 c3 d3 ⟨v, h⟩) (by simp [results, Tryd.results54, go_sem, j0, j1]) rfl ⟨A3, B3, c3, d3, v, h, rfl, ?_, ⟨hv8, hh9⟩, ?_⟩
  · exact ((o3.far (by show w.heap.size < w2.heap.size; omega) _).far (by show w.heap.size < w2.heap.size; omega) _).lo (by omega)
  · exact (hG.setCell (Nat.le_refl _) _).setCell (Nat.le_refl _) _

end Go.Proofs.YtifdefkkofngoaaDoor
