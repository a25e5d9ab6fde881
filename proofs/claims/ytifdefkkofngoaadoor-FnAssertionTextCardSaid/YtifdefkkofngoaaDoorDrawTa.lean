/- The draws of assertions and of their texts. No conditions. -/
import Derived.Test.YtifdefkkofngoaaDoorDrawC
import Derived.Test.YtifdefkkofngoaaDoorBend
import Derived.Test.YtifdefkkofngoaaDoorFs
namespace Go.Proofs.YtifdefkkofngoaaDoor
open Go.RowKit
set_option linter.unusedVariables false

/-- An assertion was drawn. -/
def DrawnA (w : World) (e : Ending) (w' : World) : Prop := ∃ A B c d s, e = .returned (asval A B c d s) ∧ OAs w' w.heap.size A B c d s ∧ (s.f.length ≤ 100 ∧ s.a.length ≤ 100) ∧ Grow w w'

set_option maxRecDepth 100000 in
set_option maxHeartbeats 1600000 in
theorem DrawAssertionValid_c (A : Option Addr) (n c : Nat) (w : World) (hb : Bytes w A n) (hn : n ≤ 9223372036854775807) (hc : n ≤ c) :
    Calls Tryd.prog 74 #[.slice A n c] w (DrawnA w) := by
  have y2 := Box2.new w 46 (.slice none 0 0) (.slice none 0 0)
  have G0 : Grow w (w.alloc (.cells #[.slice none 0 0, .slice none 0 0] 46)) := (by repeat (first | exact Grow.refl _ | assumption | refine Grow.alloc ?_ _ | refine Grow.drew ?_ | refine Grow.drewN ?_ _ | refine Grow.trans ?_ (by assumption) | refine Grow.below ?_ (by assumption) (by first | exact Nat.le_refl _ | omega)))
  go_enter Tryd.func74, Tryd.ntmps74
  go_wp2_with fail
  generalize w.alloc (.cells #[.slice none 0 0, .slice none 0 0] 46) = w1 at *
  refine (l18Open_c A n c _ (hb.grow G0) hn hc).mono ?_
  rintro e w2 ⟨g, rfl, hr, hgl, g2⟩
  have hs1 := y2.lt
  replace y2 := y2.grow g2
  have G := G0.trans g2
  have hs2 := g2.le
  have hg2 := hr.lt
  clear g2 G0 hb
  go_wp2_with fail
  refine (l3Draw_c g 0 _ hr (by omega)).mono ?_
  rintro e w3 ⟨⟨A3, B3, c3, d3, s, rfl, o3, _, hv, hh⟩, hr3, b3⟩
  replace y2 := y2.kept b3 (by intro e; injection e with e; omega)
  replace G := G.grown b3 (fun k hk => by injection hk with hk; omega)
  have hs3 := b3.size
  clear b3 hr
  go_wp2_with fail
  refine (l3Mutate_c g _ A3 B3 c3 d3 s _ hr3 (by omega) o3.st (by omega) (by omega)).mono ?_
  rintro e w4 ⟨⟨A4, B4, c4, d4, s4, rfl, o4, hv4, hh4⟩, hr4, b4⟩
  replace y2 := y2.kept b4 (by intro e; injection e with e; omega)
  replace G := G.grown b4 (fun k hk => by injection hk with hk; omega)
  clear b4 hr3 o3
  obtain ⟨j0, j1, e0, e1⟩ := y2.facts
  go_wp2_with fail
  refine bodyPost_ret (v := asval A4 B4 c4 d4 s4) (by simp [results, Tryd.results74, go_sem, j0, j1]) rfl ⟨A4, B4, c4, d4, s4, rfl, ?_, ⟨by omega, by omega⟩, ?_⟩
  · exact ((o4.far (by show w.heap.size < _; omega) _).far (by show w.heap.size < _; omega) _).lo (by omega)
  · exact (G.setCell (Nat.le_refl _) _).setCell (Nat.le_refl _) _

set_option maxRecDepth 100000 in
set_option maxHeartbeats 1600000 in
theorem DrawFormatAssertion_c (A : Option Addr) (n c : Nat) (w : World) (hb : Bytes w A n) (hn : n ≤ 9223372036854775807) (hc : n ≤ c) :
    Calls Tryd.prog 30 #[.slice A n c] w (DrawnA w) := by
  have y0 := Box2.new w 46 (.slice none 0 0) (.slice none 0 0)
  go_enter Tryd.func30, Tryd.ntmps30
  go_wp2_with fail
  refine (DrawAssertionValid_c A n c _ (hb.grow (by repeat (first | exact Grow.refl _ | assumption | refine Grow.alloc ?_ _ | refine Grow.drew ?_ | refine Grow.drewN ?_ _ | refine Grow.trans ?_ (by assumption) | refine Grow.below ?_ (by assumption) (by first | exact Nat.le_refl _ | omega)))) hn hc).mono ?_
  rintro e w1 ⟨A1, B1, c1, d1, s, rfl, o1, hl, g1⟩
  have y1 := y0.grow g1
  obtain ⟨j0, j1, e0, e1⟩ := y1.facts
  simp only [World.size_alloc] at o1
  go_wp2_with fail
  refine bodyPost_ret (v := asval A1 B1 c1 d1 s) (by simp [results, Tryd.results30, go_sem, j0, j1]) rfl ⟨A1, B1, c1, d1, s, rfl, ?_, hl, ?_⟩
  · exact ((o1.far (by show w.heap.size < w.heap.size + 1; omega) _).far (by show w.heap.size < w.heap.size + 1; omega) _).lo (by omega)
  · exact ((show Grow w w1 from (by repeat (first | exact Grow.refl _ | assumption | refine Grow.alloc ?_ _ | refine Grow.drew ?_ | refine Grow.drewN ?_ _ | refine Grow.trans ?_ (by assumption) | refine Grow.below ?_ (by assumption) (by first | exact Nat.le_refl _ | omega)))).setCell (Nat.le_refl _) _).setCell (Nat.le_refl _) _

set_option maxRecDepth 100000 in
set_option maxHeartbeats 1600000 in
theorem DrawParseAssertion_c (A : Option Addr) (n c : Nat) (w : World) (hb : Bytes w A n) (hn : n ≤ 9223372036854775807) (hc : n ≤ c) :
    Calls Tryd.prog 36 #[.slice A n c] w fun e w' => (∃ t : List UInt8, t.length ≤ 300 ∧ e = .returned (.string (Pl.str t))) ∧ Grow w w' := by
  go_enter Tryd.func36, Tryd.ntmps36
  go_wp2_with fail
  refine (l18Open_c A n c _ hb hn hc).mono ?_
  rintro e w1 ⟨g, rfl, hr, hgl, g1⟩
  go_wp2_with fail
  refine (l3Draw_c g 0 _ hr (by omega)).mono ?_
  rintro e w2 ⟨⟨A2, B2, c2, d2, s, rfl, o2, hsv, _, _⟩, hr2, b2⟩
  have G := g1.grown b2 (fun k hk => by injection hk with hk; omega)
  clear b2 g1 hr
  obtain ⟨f, a⟩ := s
  go_wp2_with fail
  refine (l3Text_c A2 B2 c2 d2 f a _ o2.st hsv).mono ?_
  rintro e w3 ⟨rfl, g3⟩
  have hg3 := hr2.lt
  have hs3 := g3.le
  have hl := Pl.txA_len hsv
  clear o2 hsv
  go_wp2_with fail
  have hlit := lit_texts w3 [[], [32], [124], [42], [38], [126], [97], [101, 109, 112]] _ rfl (by simp)
  refine (l1Bend_c g _ w3.heap.size 8 _ [[], [32], [124], [42], [38], [126], [97], [101, 109, 112]] (Pl.txA ⟨f, a⟩) _ ((hr2.grow g3).grow (by repeat (first | exact Grow.refl _ | assumption | refine Grow.alloc ?_ _ | refine Grow.drew ?_ | refine Grow.drewN ?_ _ | refine Grow.trans ?_ (by assumption) | refine Grow.below ?_ (by assumption) (by first | exact Nat.le_refl _ | omega)))) (by omega) (by simp) (by simp) hlit (by omega) (by simp) (by omega)).mono ?_
  rintro e w4 ⟨⟨t, ht, rfl⟩, hr4, b4⟩
  go_wp2_with fail
  go_ret
  exact ⟨⟨t, by omega, rfl⟩, Grow.grown (G.trans (g3.trans (by repeat (first | exact Grow.refl _ | assumption | refine Grow.alloc ?_ _ | refine Grow.drew ?_ | refine Grow.drewN ?_ _ | refine Grow.trans ?_ (by assumption) | refine Grow.below ?_ (by assumption) (by first | exact Nat.le_refl _ | omega))))) b4 (fun k hk => by injection hk with hk; omega)⟩

end Go.Proofs.YtifdefkkofngoaaDoor
