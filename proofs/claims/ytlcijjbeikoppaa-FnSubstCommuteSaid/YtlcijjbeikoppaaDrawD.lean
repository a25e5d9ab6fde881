/- The draw of SubstAssertion's arguments. No conditions. -/
import Derived.Test.YtlcijjbeikoppaaDrawC
namespace Go.Proofs.Ytlcijjbeikoppaa
open Go.RowKit
set_option linter.unusedVariables false

/-- An assertion and two numbers were drawn. -/
def DrawnSb (w : World) (e : Ending) (w' : World) : Prop := ∃ A B c d v h x t, e = .returned (.tuple #[asval A B c d ⟨v, h⟩, .int .i64 x, .int .i64 t]) ∧ OAs w' w.heap.size A B c d ⟨v, h⟩ ∧ (v.length ≤ 20 ∧ h.length ≤ 20) ∧ Grow w w'


set_option maxRecDepth 100000 in
set_option maxHeartbeats 3200000 in
theorem DrawSubstAssertion_c (A : Option Addr) (n c : Nat) (w : World) (hb : Bytes w A n) (hn : n ≤ 9223372036854775807) (hc : n ≤ c) :
    Calls Try.prog 14 #[.slice A n c] w (DrawnSb w) := by
  have y0 := Box2.new w 30 (.slice none 0 0) (.slice none 0 0)
  go_enter Try.func14, Try.ntmps14
  go_wp2_with fail
  refine (l18Open_c A n c _ (hb.grow (by repeat (first | exact Grow.refl _ | assumption | refine Grow.alloc ?_ _ | refine Grow.drew ?_ | refine Grow.drewN ?_ _ | refine Grow.trans ?_ (by assumption) | refine Grow.below ?_ (by assumption) (by first | exact Nat.le_refl _ | omega)))) hn hc).mono ?_
  rintro e w1 ⟨g, rfl, hr1, hgl, g1⟩
  simp only [World.size_alloc] at hgl
  have y0 := y0.grow g1
  have hG1 : Grow w w1 := (by repeat (first | exact Grow.refl _ | assumption | refine Grow.alloc ?_ _ | refine Grow.drew ?_ | refine Grow.drewN ?_ _ | refine Grow.trans ?_ (by assumption) | refine Grow.below ?_ (by assumption) (by first | exact Nat.le_refl _ | omega)))
  have hs1 := y0.lt
  clear g1 hb
  go_wp2_with fail
  refine (l3Draw_c g 0 _ hr1 (by omega)).mono ?_
  rintro e w2 ⟨⟨A2, B2, c2, d2, s2, rfl, o2, hv2, hf2, ha2⟩, hr2, b2⟩
  have y0 := y0.kept b2 (by intro e; injection e with e; omega)
  have hG2 : Grow w w2 := hG1.grown b2 (fun k hk => by injection hk with hk; omega)
  have hs2 := b2.size
  have S2 : Asrs w2 A2 B2 s2 := o2.st
  clear b2 hr1 hG1 o2 hv2
  go_wp2_with fail
  refine (l3Mutate_c g _ A2 B2 c2 d2 s2 _ hr2 (by omega) S2 (by omega) (by omega)).mono ?_
  rintro e w3 ⟨⟨A3, B3, c3, d3, ⟨v, h⟩, rfl, o3, hv, hh⟩, hr3, b3⟩
  have y0 := y0.kept b3 (by intro e; injection e with e; omega)
  have hG : Grow w w3 := hG2.grown b3 (fun k hk => by injection hk with hk; omega)
  have hs3 := b3.size
  have hv8 : v.length ≤ 20 := Nat.le_trans hv (by omega)
  have hh8 : h.length ≤ 20 := Nat.le_trans hh (by omega)
  have hlt3 := y0.lt
  have hg3 := hr3.lt
  have hg2 := hr2.lt
  clear b3 hr2 hG2 S2 hv hh hf2 ha2
  go_wp2_with fail
  have hlit := lit_own (w3.alloc (.cells #[.slice A3 v.length c3, .slice B3 h.length d3] 30)) [1, 2, 5, 3, 0, 9] _ rfl (by simp)
  simp only [World.size_alloc] at hlit
  refine (num_c g (0 + 30 + 10) 6 (w3.heap.size + 1) _ [1, 2, 5, 3, 0, 9] _ (hr3.grow (by repeat (first | exact Grow.refl _ | assumption | refine Grow.alloc ?_ _ | refine Grow.drew ?_ | refine Grow.drewN ?_ _ | refine Grow.trans ?_ (by assumption) | refine Grow.below ?_ (by assumption) (by first | exact Nat.le_refl _ | omega)))) (by omega) (by simp) (by simp) hlit (by omega)).mono ?_
  rintro e w7 ⟨⟨a, ha0, rfl⟩, hr7, g7⟩
  have y0 := (y0.grow (show Grow w3 _ from (by repeat (first | exact Grow.refl _ | assumption | refine Grow.alloc ?_ _ | refine Grow.drew ?_ | refine Grow.drewN ?_ _ | refine Grow.trans ?_ (by assumption) | refine Grow.below ?_ (by assumption) (by first | exact Nat.le_refl _ | omega))))).kept g7 (by intro e; injection e with e; omega)
  have y3 := ((Box2.new w3 30 (.slice A3 v.length c3) (.slice B3 h.length d3)).grow (show Grow _ _ from Grow.alloc (Grow.refl _) _)).kept g7 (by intro e; injection e with e; omega)
  have o7 := (o3.grow (show Grow w3 _ from (by repeat (first | exact Grow.refl _ | assumption | refine Grow.alloc ?_ _ | refine Grow.drew ?_ | refine Grow.drewN ?_ _ | refine Grow.trans ?_ (by assumption) | refine Grow.below ?_ (by assumption) (by first | exact Nat.le_refl _ | omega))))).kept g7 (fun k hk => by injection hk with hk; omega)
  have hG7 : Grow w w7 := (hG.trans (show Grow w3 _ from (by repeat (first | exact Grow.refl _ | assumption | refine Grow.alloc ?_ _ | refine Grow.drew ?_ | refine Grow.drewN ?_ _ | refine Grow.trans ?_ (by assumption) | refine Grow.below ?_ (by assumption) (by first | exact Nat.le_refl _ | omega))))).grown g7 (fun k hk => by injection hk with hk; omega)
  have hs7 := y3.lt
  obtain ⟨k0, k1, _, _⟩ := y3.facts
  clear g7 o3 hG hlit ha0
  obtain ⟨j0, j1, e0, e1⟩ := y0.facts
  have hlit2 := fun W => lit_own W [2, 0, 6, 8, 1, 9, -1] _ rfl (by simp)
  go_wp2_with fail
  go_region_held3 (fun W => W.cell? ⟨w3.heap.size, 0, none⟩ = some (.slice A3 v.length c3) ∧ W.cell? ⟨w3.heap.size, 1, none⟩ = some (.slice B3 h.length d3))
    (first
      | go_keep
      | (go_split_ands; exact ⟨g4.cell (by assumption) (by intro e; injection e with e; exact absurd (show w3.heap.size = g from e) (by omega)), g4.cell (by assumption) (by intro e; injection e with e; exact absurd (show w3.heap.size = g from e) (by omega))⟩)
      | (go_split_ands; exact ⟨(World.cell?_setCell_other _ _ _ _ (by intro e; injection e with e; exact absurd e (by omega))).trans ((World.cell?_setCell_other _ _ _ _ (by intro e; injection e with e; exact absurd e (by omega))).trans (by assumption)), (World.cell?_setCell_other _ _ _ _ (by intro e; injection e with e; exact absurd e (by omega))).trans ((World.cell?_setCell_other _ _ _ _ (by intro e; injection e with e; exact absurd e (by omega))).trans (by assumption))⟩))
    ((go_at_call 45; refine (num_c g (0 + 30 + 10 + 1) 7 w7.heap.size _ [2, 0, 6, 8, 1, 9, -1] _ (hr7.grow (by repeat (first | exact Grow.refl _ | assumption | refine Grow.alloc ?_ _ | refine Grow.drew ?_ | refine Grow.drewN ?_ _ | refine Grow.trans ?_ (by assumption) | refine Grow.below ?_ (by assumption) (by first | exact Nat.le_refl _ | omega)))) (by omega) (by simp) (by simp) (own_grow (hlit2 _) (by repeat (first | exact Grow.refl _ | assumption | refine Grow.alloc ?_ _ | refine Grow.drew ?_ | refine Grow.drewN ?_ _ | refine Grow.trans ?_ (by assumption) | refine Grow.below ?_ (by assumption) (by first | exact Nat.le_refl _ | omega)))) (by omega)).mono ?_; rintro e w4 ⟨⟨p, hp, rfl⟩, hr4, g4⟩; have y5 := (y0.grow (show Grow w7 _ from (by repeat (first | exact Grow.refl _ | assumption | refine Grow.alloc ?_ _ | refine Grow.drew ?_ | refine Grow.drewN ?_ _ | refine Grow.trans ?_ (by assumption) | refine Grow.below ?_ (by assumption) (by first | exact Nat.le_refl _ | omega))))).kept g4 (by intro e; injection e with e; omega); obtain ⟨i0, i1, f0, f1⟩ := y5.facts))
  have o4 := (o7.grow (show Grow w7 _ from (by repeat (first | exact Grow.refl _ | assumption | refine Grow.alloc ?_ _ | refine Grow.drew ?_ | refine Grow.drewN ?_ _ | refine Grow.trans ?_ (by assumption) | refine Grow.below ?_ (by assumption) (by first | exact Nat.le_refl _ | omega))))).kept g4 (fun k hk => by injection hk with hk; omega)
  have hG4 : Grow w w4 := (hG7.trans (show Grow w7 _ from (by repeat (first | exact Grow.refl _ | assumption | refine Grow.alloc ?_ _ | refine Grow.drew ?_ | refine Grow.drewN ?_ _ | refine Grow.trans ?_ (by assumption) | refine Grow.below ?_ (by assumption) (by first | exact Nat.le_refl _ | omega))))).grown g4 (fun k hk => by injection hk with hk; omega)
  go_wp2
  refine bodyPost_ret (v := .tuple #[asval A3 B3 c3 d3 ⟨v, h⟩, .int .i64 a, .int .i64 p]) (by simp [results, Try.results14, go_sem, i0, i1]) rfl ⟨A3, B3, c3, d3, v, h, a, p, rfl, ?_, ⟨hv8, hh8⟩, ?_⟩
  · exact ((o4.far (by show w.heap.size < w2.heap.size; omega) _).far (by show w.heap.size < w2.heap.size; omega) _).lo (by omega)
  · exact (hG4.setCell (Nat.le_refl _) _).setCell (Nat.le_refl _) _

end Go.Proofs.Ytlcijjbeikoppaa
