/- The draws of states and of their texts. No conditions. -/
import Derived.Test.YtifdefkkofngoaaDoorDrawS2
import Derived.Test.YtifdefkkofngoaaDoorBend
import Derived.Test.YtifdefkkofngoaaDoorFssA
namespace Go.Proofs.YtifdefkkofngoaaDoor
open Go.RowKit
set_option linter.unusedVariables false

theorem DrawFormatState_c (A : Option Addr) (n c : Nat) (w : World) (hb : Bytes w A n) (hn : n ≤ 9223372036854775807) (hc : n ≤ c) :
    Calls Tryd.prog 18 #[.slice A n c] w (Drawn w) := by
  have y0 := Box2.new w 27 (.slice none 0 0) (.slice none 0 0)
  go_enter Tryd.func18, Tryd.ntmps18
  go_wp2_with fail
  refine (DrawStateValid_c A n c _ (hb.grow (by repeat (first | exact Grow.refl _ | assumption | refine Grow.alloc ?_ _ | refine Grow.drew ?_ | refine Grow.drewN ?_ _ | refine Grow.trans ?_ (by assumption) | refine Grow.below ?_ (by assumption) (by first | exact Nat.le_refl _ | omega)))) hn hc).mono ?_
  rintro e w1 ⟨A1, B1, c1, d1, v, h, rfl, o1, hl, g1⟩
  have y1 := y0.grow g1
  obtain ⟨j0, j1, e0, e1⟩ := y1.facts
  simp only [World.size_alloc] at o1
  go_wp2_with fail
  refine bodyPost_ret (v := sval A1 B1 c1 d1 ⟨v, h⟩) (by simp [results, Tryd.results18, go_sem, j0, j1]) rfl ⟨A1, B1, c1, d1, v, h, rfl, ?_, hl, ?_⟩
  · exact ((o1.far (by show w.heap.size < w.heap.size + 1; omega) _).far (by show w.heap.size < w.heap.size + 1; omega) _).lo (by omega)
  · exact ((show Grow w w1 from (by repeat (first | exact Grow.refl _ | assumption | refine Grow.alloc ?_ _ | refine Grow.drew ?_ | refine Grow.drewN ?_ _ | refine Grow.trans ?_ (by assumption) | refine Grow.below ?_ (by assumption) (by first | exact Nat.le_refl _ | omega)))).setCell (Nat.le_refl _) _).setCell (Nat.le_refl _) _

set_option maxRecDepth 100000 in
set_option maxHeartbeats 1600000 in
theorem DrawParseState_c (A : Option Addr) (n c : Nat) (w : World) (hb : Bytes w A n) (hn : n ≤ 9223372036854775807) (hc : n ≤ c) :
    Calls Tryd.prog 22 #[.slice A n c] w fun e w' => (∃ t : List UInt8, t.length ≤ 300 ∧ e = .returned (.string (Pl.str t))) ∧ Grow w w' := by
  go_enter Tryd.func22, Tryd.ntmps22
  go_wp2_with fail
  refine (l18Open_c A n c _ hb hn hc).mono ?_
  rintro e w1 ⟨g, rfl, hr, hgl, g1⟩
  go_wp2_with fail
  refine (l2Draw_c g 0 _ hr (by omega)).mono ?_
  rintro e w2 ⟨⟨A2, B2, c2, d2, v, h, rfl, o2, hv, hh⟩, hr2, b2⟩
  have G := g1.grown b2 (fun k hk => by injection hk with hk; omega)
  clear b2 g1 hr
  obtain ⟨X, hX⟩ : ∃ X, X = Pl.fmtS ⟨v, h⟩ := ⟨_, rfl⟩
  have hl : X.length ≤ 70 := by rw [hX]; exact Pl.fmtS_len _
  have CF := Lib.hid (show Calls Tryd.prog 10 #[sval A2 B2 c2 d2 ⟨v, h⟩] w2 fun e w' => e = .returned (.string (Pl.str X)) ∧ Grow w2 w' by
    have := sFormatState_c A2 B2 c2 d2 ⟨v, h⟩ w2 o2.st (by show v.length ≤ _; omega) (by show h.length ≤ _; omega)
    rw [← hX] at this
    exact this)
  clear hX o2
  go_wp2_with fail
  (with_reducible refine CF.out.mono ?_)
  rintro e w3 ⟨rfl, g3⟩
  have hg3 := hr2.lt
  have hs3 := g3.le
  clear CF
  go_wp2_with fail
  have hlit := lit_texts w3 [[], [32], [61], [62], [48], [57], [97]] _ rfl (by simp)
  refine (l1Bend_c g _ w3.heap.size 7 _ [[], [32], [61], [62], [48], [57], [97]] X _ ((hr2.grow g3).grow (by repeat (first | exact Grow.refl _ | assumption | refine Grow.alloc ?_ _ | refine Grow.drew ?_ | refine Grow.drewN ?_ _ | refine Grow.trans ?_ (by assumption) | refine Grow.below ?_ (by assumption) (by first | exact Nat.le_refl _ | omega)))) (by omega) (by simp) (by simp) hlit (by omega) (by simp) (by omega)).mono ?_
  rintro e w4 ⟨⟨t, ht, rfl⟩, hr4, b4⟩
  go_wp2_with fail
  go_ret
  exact ⟨⟨t, by omega, rfl⟩, Grow.grown (G.trans (g3.trans (by repeat (first | exact Grow.refl _ | assumption | refine Grow.alloc ?_ _ | refine Grow.drew ?_ | refine Grow.drewN ?_ _ | refine Grow.trans ?_ (by assumption) | refine Grow.below ?_ (by assumption) (by first | exact Nat.le_refl _ | omega))))) b4 (fun k hk => by injection hk with hk; omega)⟩

end Go.Proofs.YtifdefkkofngoaaDoor
