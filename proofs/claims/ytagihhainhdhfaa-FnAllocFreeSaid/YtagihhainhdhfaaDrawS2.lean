/- The draws of the arguments of the laws of states. No conditions. -/
import Derived.Test.YtagihhainhdhfaaDrawS
namespace Go.Proofs.Ytagihhainhdhfaa
open Go.RowKit
set_option linter.unusedVariables false

/-- A state was drawn, and numbers beside it. -/
def Drawn (w : World) (e : Ending) (w' : World) : Prop := ∃ A B c d v h, e = .returned (sval A B c d ⟨v, h⟩) ∧ OSt w' w.heap.size A B c d ⟨v, h⟩ ∧ (v.length ≤ 8 ∧ h.length ≤ 9) ∧ Grow w w'
def Drawn1 (w : World) (e : Ending) (w' : World) : Prop := ∃ A B c d v h, ∃ a : Int, e = .returned (.tuple #[sval A B c d ⟨v, h⟩, .int .i64 a]) ∧ OSt w' w.heap.size A B c d ⟨v, h⟩ ∧ (v.length ≤ 8 ∧ h.length ≤ 9) ∧ (-1 ≤ a ∧ a ≤ 9) ∧ Grow w w'
def Drawn2 (w : World) (e : Ending) (w' : World) : Prop := ∃ A B c d v h, ∃ a b : Int, e = .returned (.tuple #[sval A B c d ⟨v, h⟩, .int .i64 a, .int .i64 b]) ∧ OSt w' w.heap.size A B c d ⟨v, h⟩ ∧ (v.length ≤ 8 ∧ h.length ≤ 9) ∧ (-1 ≤ a ∧ a ≤ 9) ∧ (-1 ≤ b ∧ b ≤ 9) ∧ Grow w w'


set_option maxHeartbeats 1600000 in
theorem DrawStateValid_c (A : Option Addr) (n c : Nat) (w : World) (hb : Bytes w A n) (hn : n ≤ 9223372036854775807) (hc : n ≤ c) :
    Calls Try.prog 56 #[.slice A n c] w (Drawn w) := by
  have y0 := Box2.new w 25 (.slice none 0 0) (.slice none 0 0)
  go_enter Try.func56, Try.ntmps56
  go_wp2_with fail
  refine (l18Open_c A n c _ (hb.grow (by repeat (first | exact Grow.refl _ | assumption | refine Grow.alloc ?_ _ | refine Grow.drew ?_ | refine Grow.drewN ?_ _ | refine Grow.trans ?_ (by assumption) | refine Grow.below ?_ (by assumption) (by first | exact Nat.le_refl _ | omega)))) hn hc).mono ?_
  rintro e w1 ⟨g, rfl, hr1, hgl, g1⟩
  simp only [World.size_alloc] at hgl
  have y0 := y0.grow g1
  have hG1 : Grow w w1 := (by repeat (first | exact Grow.refl _ | assumption | refine Grow.alloc ?_ _ | refine Grow.drew ?_ | refine Grow.drewN ?_ _ | refine Grow.trans ?_ (by assumption) | refine Grow.below ?_ (by assumption) (by first | exact Nat.le_refl _ | omega)))
  have hs1 := y0.lt
  clear g1 hb
  go_wp2_with fail
  refine (l2Draw_c g 0 _ hr1 (by omega)).mono ?_
  rintro e w2 ⟨⟨A2, B2, c2, d2, v2, h2, rfl, o2, hv2, hh2⟩, hr2, b2⟩
  have y0 := y0.kept b2 (by intro e; injection e with e; omega)
  have hG2 : Grow w w2 := hG1.grown b2 (fun k hk => by injection hk with hk; omega)
  have hs2 := b2.size
  have S2 : Sts w2 A2 B2 ⟨v2, h2⟩ := o2.st
  have hlv : v2.length ≤ 8 := by omega
  have hlh : h2.length ≤ 8 := by omega
  clear b2 hr1 hG1 o2 hv2 hh2
  go_wp2_with fail
  refine (l2Mutate_c g _ A2 B2 c2 d2 ⟨v2, h2⟩ _ hr2 (by omega) S2 (by show v2.length ≤ _; omega) (by show h2.length ≤ _; omega)).mono ?_
  rintro e w3 ⟨⟨A3, B3, c3, d3, v, h, rfl, o3, hv, hh⟩, hr3, b3⟩
  have y0 := y0.kept b3 (by intro e; injection e with e; omega)
  have hG : Grow w w3 := hG2.grown b3 (fun k hk => by injection hk with hk; omega)
  have hs3 := b3.size
  have hv8 : v.length ≤ 8 := Nat.le_trans hv hlv
  have hh9 : h.length ≤ 9 := Nat.le_trans hh (by show h2.length + 1 ≤ 9; omega)
  have hlt3 := y0.lt
  have hg3 := hr3.lt
  have hg2 := hr2.lt
  clear b3 hr2 hG2 S2 hv hh hlv hlh
  obtain ⟨j0, j1, e0, e1⟩ := y0.facts
  go_wp2_with fail
  refine bodyPost_ret (v := sval A3 B3 c3 d3 ⟨v, h⟩) (by simp [results, Try.results56, go_sem, j0, j1]) rfl ⟨A3, B3, c3, d3, v, h, rfl, ?_, ⟨hv8, hh9⟩, ?_⟩
  · exact ((o3.far (by show w.heap.size < w2.heap.size; omega) _).far (by show w.heap.size < w2.heap.size; omega) _).lo (by omega)
  · exact (hG.setCell (Nat.le_refl _) _).setCell (Nat.le_refl _) _


theorem DrawAllocCell_c (A : Option Addr) (n c : Nat) (w : World) (hb : Bytes w A n) (hn : n ≤ 9223372036854775807) (hc : n ≤ c) :
    Calls Try.prog 31 #[.slice A n c] w (Drawn w) := by
  have y0 := Box2.new w 25 (.slice none 0 0) (.slice none 0 0)
  go_enter Try.func31, Try.ntmps31
  go_wp2_with fail
  refine (DrawStateValid_c A n c _ (hb.grow (by repeat (first | exact Grow.refl _ | assumption | refine Grow.alloc ?_ _ | refine Grow.drew ?_ | refine Grow.drewN ?_ _ | refine Grow.trans ?_ (by assumption) | refine Grow.below ?_ (by assumption) (by first | exact Nat.le_refl _ | omega)))) hn hc).mono ?_
  rintro e w1 ⟨A1, B1, c1, d1, v, h, rfl, o1, hl, g1⟩
  have y1 := y0.grow g1
  obtain ⟨j0, j1, e0, e1⟩ := y1.facts
  simp only [World.size_alloc] at o1
  go_wp2_with fail
  refine bodyPost_ret (v := sval A1 B1 c1 d1 ⟨v, h⟩) (by simp [results, Try.results31, go_sem, j0, j1]) rfl ⟨A1, B1, c1, d1, v, h, rfl, ?_, hl, ?_⟩
  · exact ((o1.far (by show w.heap.size < w.heap.size + 1; omega) _).far (by show w.heap.size < w.heap.size + 1; omega) _).lo (by omega)
  · exact ((show Grow w w1 from (by repeat (first | exact Grow.refl _ | assumption | refine Grow.alloc ?_ _ | refine Grow.drew ?_ | refine Grow.drewN ?_ _ | refine Grow.trans ?_ (by assumption) | refine Grow.below ?_ (by assumption) (by first | exact Nat.le_refl _ | omega)))).setCell (Nat.le_refl _) _).setCell (Nat.le_refl _) _

theorem DrawUsedCells_c (A : Option Addr) (n c : Nat) (w : World) (hb : Bytes w A n) (hn : n ≤ 9223372036854775807) (hc : n ≤ c) :
    Calls Try.prog 25 #[.slice A n c] w (Drawn w) := by
  have y0 := Box2.new w 25 (.slice none 0 0) (.slice none 0 0)
  go_enter Try.func25, Try.ntmps25
  go_wp2_with fail
  refine (DrawStateValid_c A n c _ (hb.grow (by repeat (first | exact Grow.refl _ | assumption | refine Grow.alloc ?_ _ | refine Grow.drew ?_ | refine Grow.drewN ?_ _ | refine Grow.trans ?_ (by assumption) | refine Grow.below ?_ (by assumption) (by first | exact Nat.le_refl _ | omega)))) hn hc).mono ?_
  rintro e w1 ⟨A1, B1, c1, d1, v, h, rfl, o1, hl, g1⟩
  have y1 := y0.grow g1
  obtain ⟨j0, j1, e0, e1⟩ := y1.facts
  simp only [World.size_alloc] at o1
  go_wp2_with fail
  refine bodyPost_ret (v := sval A1 B1 c1 d1 ⟨v, h⟩) (by simp [results, Try.results25, go_sem, j0, j1]) rfl ⟨A1, B1, c1, d1, v, h, rfl, ?_, hl, ?_⟩
  · exact ((o1.far (by show w.heap.size < w.heap.size + 1; omega) _).far (by show w.heap.size < w.heap.size + 1; omega) _).lo (by omega)
  · exact ((show Grow w w1 from (by repeat (first | exact Grow.refl _ | assumption | refine Grow.alloc ?_ _ | refine Grow.drew ?_ | refine Grow.drewN ?_ _ | refine Grow.trans ?_ (by assumption) | refine Grow.below ?_ (by assumption) (by first | exact Nat.le_refl _ | omega)))).setCell (Nat.le_refl _) _).setCell (Nat.le_refl _) _


set_option maxHeartbeats 1600000 in
theorem DrawReadCell_c (A : Option Addr) (n c : Nat) (w : World) (hb : Bytes w A n) (hn : n ≤ 9223372036854775807) (hc : n ≤ c) :
    Calls Try.prog 17 #[.slice A n c] w (Drawn1 w) := by
  have y0 := Box2.new w 25 (.slice none 0 0) (.slice none 0 0)
  go_enter Try.func17, Try.ntmps17
  go_wp2_with fail
  refine (l18Open_c A n c _ (hb.grow (by repeat (first | exact Grow.refl _ | assumption | refine Grow.alloc ?_ _ | refine Grow.drew ?_ | refine Grow.drewN ?_ _ | refine Grow.trans ?_ (by assumption) | refine Grow.below ?_ (by assumption) (by first | exact Nat.le_refl _ | omega)))) hn hc).mono ?_
  rintro e w1 ⟨g, rfl, hr1, hgl, g1⟩
  simp only [World.size_alloc] at hgl
  have y0 := y0.grow g1
  have hG1 : Grow w w1 := (by repeat (first | exact Grow.refl _ | assumption | refine Grow.alloc ?_ _ | refine Grow.drew ?_ | refine Grow.drewN ?_ _ | refine Grow.trans ?_ (by assumption) | refine Grow.below ?_ (by assumption) (by first | exact Nat.le_refl _ | omega)))
  have hs1 := y0.lt
  clear g1 hb
  go_wp2_with fail
  refine (l2Draw_c g 0 _ hr1 (by omega)).mono ?_
  rintro e w2 ⟨⟨A2, B2, c2, d2, v2, h2, rfl, o2, hv2, hh2⟩, hr2, b2⟩
  have y0 := y0.kept b2 (by intro e; injection e with e; omega)
  have hG2 : Grow w w2 := hG1.grown b2 (fun k hk => by injection hk with hk; omega)
  have hs2 := b2.size
  have S2 : Sts w2 A2 B2 ⟨v2, h2⟩ := o2.st
  have hlv : v2.length ≤ 8 := by omega
  have hlh : h2.length ≤ 8 := by omega
  clear b2 hr1 hG1 o2 hv2 hh2
  go_wp2_with fail
  refine (l2Mutate_c g _ A2 B2 c2 d2 ⟨v2, h2⟩ _ hr2 (by omega) S2 (by show v2.length ≤ _; omega) (by show h2.length ≤ _; omega)).mono ?_
  rintro e w3 ⟨⟨A3, B3, c3, d3, v, h, rfl, o3, hv, hh⟩, hr3, b3⟩
  have y0 := y0.kept b3 (by intro e; injection e with e; omega)
  have hG : Grow w w3 := hG2.grown b3 (fun k hk => by injection hk with hk; omega)
  have hs3 := b3.size
  have hv8 : v.length ≤ 8 := Nat.le_trans hv hlv
  have hh9 : h.length ≤ 9 := Nat.le_trans hh (by show h2.length + 1 ≤ 9; omega)
  have hlt3 := y0.lt
  have hg3 := hr3.lt
  have hg2 := hr2.lt
  clear b3 hr2 hG2 S2 hv hh hlv hlh
  obtain ⟨j0, j1, e0, e1⟩ := y0.facts
  go_wp2_with fail
  go_region_held3 (fun W => W.cell? ⟨w3.heap.size, 0, none⟩ = some (.slice A3 v.length c3) ∧ W.cell? ⟨w3.heap.size, 1, none⟩ = some (.slice B3 h.length d3))
    (first
      | go_keep
      | (go_split_ands; exact ⟨g4.cell (by assumption) (by intro e; injection e with e; exact absurd (show w3.heap.size = g from e) (by omega)), g4.cell (by assumption) (by intro e; injection e with e; exact absurd (show w3.heap.size = g from e) (by omega))⟩)
      | (go_split_ands; exact ⟨(World.cell?_setCell_other _ _ _ _ (by intro e; injection e with e; exact absurd e (by omega))).trans ((World.cell?_setCell_other _ _ _ _ (by intro e; injection e with e; exact absurd e (by omega))).trans (by assumption)), (World.cell?_setCell_other _ _ _ _ (by intro e; injection e with e; exact absurd e (by omega))).trans ((World.cell?_setCell_other _ _ _ _ (by intro e; injection e with e; exact absurd e (by omega))).trans (by assumption))⟩))
    ((go_at_call 42; refine (l2Place_c g (0 + 30 + 2) _ (hr3.grow (by repeat (first | exact Grow.refl _ | assumption | refine Grow.alloc ?_ _ | refine Grow.drew ?_ | refine Grow.drewN ?_ _ | refine Grow.trans ?_ (by assumption) | refine Grow.below ?_ (by assumption) (by first | exact Nat.le_refl _ | omega)))) (by omega)).mono ?_; rintro e w4 ⟨⟨p, hp, rfl⟩, hr4, g4⟩; have y5 := (y0.grow (show Grow w3 _ from (by repeat (first | exact Grow.refl _ | assumption | refine Grow.alloc ?_ _ | refine Grow.drew ?_ | refine Grow.drewN ?_ _ | refine Grow.trans ?_ (by assumption) | refine Grow.below ?_ (by assumption) (by first | exact Nat.le_refl _ | omega))))).kept g4 (by intro e; injection e with e; omega); obtain ⟨i0, i1, f0, f1⟩ := y5.facts))
  have o4 := (o3.grow (show Grow w3 _ from (by repeat (first | exact Grow.refl _ | assumption | refine Grow.alloc ?_ _ | refine Grow.drew ?_ | refine Grow.drewN ?_ _ | refine Grow.trans ?_ (by assumption) | refine Grow.below ?_ (by assumption) (by first | exact Nat.le_refl _ | omega))))).by_ g4 (by omega)
  have hG4 : Grow w w4 := (hG.trans (show Grow w3 _ from (by repeat (first | exact Grow.refl _ | assumption | refine Grow.alloc ?_ _ | refine Grow.drew ?_ | refine Grow.drewN ?_ _ | refine Grow.trans ?_ (by assumption) | refine Grow.below ?_ (by assumption) (by first | exact Nat.le_refl _ | omega))))).grown g4 (fun k hk => by injection hk with hk; omega)
  go_wp2
  refine bodyPost_ret (v := .tuple #[sval A3 B3 c3 d3 ⟨v, h⟩, .int .i64 p]) (by simp [results, Try.results17, go_sem, i0, i1]) rfl ⟨A3, B3, c3, d3, v, h, p, rfl, ?_, ⟨hv8, hh9⟩, hp, ?_⟩
  · exact ((o4.far (by show w.heap.size < w2.heap.size; omega) _).far (by show w.heap.size < w2.heap.size; omega) _).lo (by omega)
  · exact (hG4.setCell (Nat.le_refl _) _).setCell (Nat.le_refl _) _

theorem DrawFreeCell_c (A : Option Addr) (n c : Nat) (w : World) (hb : Bytes w A n) (hn : n ≤ 9223372036854775807) (hc : n ≤ c) :
    Calls Try.prog 35 #[.slice A n c] w (Drawn1 w) := by
  have y0 := Box2.new w 25 (.slice none 0 0) (.slice none 0 0)
  go_enter Try.func35, Try.ntmps35
  go_wp2_with fail
  refine (DrawReadCell_c A n c _ (hb.grow (by repeat (first | exact Grow.refl _ | assumption | refine Grow.alloc ?_ _ | refine Grow.drew ?_ | refine Grow.drewN ?_ _ | refine Grow.trans ?_ (by assumption) | refine Grow.below ?_ (by assumption) (by first | exact Nat.le_refl _ | omega)))) hn hc).mono ?_
  rintro e w1 ⟨A1, B1, c1, d1, v, h, p, rfl, o1, hl, hp, g1⟩
  have y1 := y0.grow g1
  obtain ⟨j0, j1, e0, e1⟩ := y1.facts
  simp only [World.size_alloc] at o1
  go_wp2_with fail
  refine bodyPost_ret (v := .tuple #[sval A1 B1 c1 d1 ⟨v, h⟩, .int .i64 p]) (by simp [results, Try.results35, go_sem, j0, j1]) rfl ⟨A1, B1, c1, d1, v, h, p, rfl, ?_, hl, hp, ?_⟩
  · exact ((o1.far (by show w.heap.size < w.heap.size + 1; omega) _).far (by show w.heap.size < w.heap.size + 1; omega) _).lo (by omega)
  · exact ((show Grow w w1 from (by repeat (first | exact Grow.refl _ | assumption | refine Grow.alloc ?_ _ | refine Grow.drew ?_ | refine Grow.drewN ?_ _ | refine Grow.trans ?_ (by assumption) | refine Grow.below ?_ (by assumption) (by first | exact Nat.le_refl _ | omega)))).setCell (Nat.le_refl _) _).setCell (Nat.le_refl _) _

set_option maxHeartbeats 1600000 in
theorem DrawWriteCell_c (A : Option Addr) (n c : Nat) (w : World) (hb : Bytes w A n) (hn : n ≤ 9223372036854775807) (hc : n ≤ c) :
    Calls Try.prog 29 #[.slice A n c] w (Drawn2 w) := by
  have y0 := Box2.new w 25 (.slice none 0 0) (.slice none 0 0)
  go_enter Try.func29, Try.ntmps29
  go_wp2_with fail
  refine (l18Open_c A n c _ (hb.grow (by repeat (first | exact Grow.refl _ | assumption | refine Grow.alloc ?_ _ | refine Grow.drew ?_ | refine Grow.drewN ?_ _ | refine Grow.trans ?_ (by assumption) | refine Grow.below ?_ (by assumption) (by first | exact Nat.le_refl _ | omega)))) hn hc).mono ?_
  rintro e w1 ⟨g, rfl, hr1, hgl, g1⟩
  simp only [World.size_alloc] at hgl
  have y0 := y0.grow g1
  have hG1 : Grow w w1 := (by repeat (first | exact Grow.refl _ | assumption | refine Grow.alloc ?_ _ | refine Grow.drew ?_ | refine Grow.drewN ?_ _ | refine Grow.trans ?_ (by assumption) | refine Grow.below ?_ (by assumption) (by first | exact Nat.le_refl _ | omega)))
  have hs1 := y0.lt
  clear g1 hb
  go_wp2_with fail
  refine (l2Draw_c g 0 _ hr1 (by omega)).mono ?_
  rintro e w2 ⟨⟨A2, B2, c2, d2, v2, h2, rfl, o2, hv2, hh2⟩, hr2, b2⟩
  have y0 := y0.kept b2 (by intro e; injection e with e; omega)
  have hG2 : Grow w w2 := hG1.grown b2 (fun k hk => by injection hk with hk; omega)
  have hs2 := b2.size
  have S2 : Sts w2 A2 B2 ⟨v2, h2⟩ := o2.st
  have hlv : v2.length ≤ 8 := by omega
  have hlh : h2.length ≤ 8 := by omega
  clear b2 hr1 hG1 o2 hv2 hh2
  go_wp2_with fail
  refine (l2Mutate_c g _ A2 B2 c2 d2 ⟨v2, h2⟩ _ hr2 (by omega) S2 (by show v2.length ≤ _; omega) (by show h2.length ≤ _; omega)).mono ?_
  rintro e w3 ⟨⟨A3, B3, c3, d3, v, h, rfl, o3, hv, hh⟩, hr3, b3⟩
  have y0 := y0.kept b3 (by intro e; injection e with e; omega)
  have hG : Grow w w3 := hG2.grown b3 (fun k hk => by injection hk with hk; omega)
  have hs3 := b3.size
  have hv8 : v.length ≤ 8 := Nat.le_trans hv hlv
  have hh9 : h.length ≤ 9 := Nat.le_trans hh (by show h2.length + 1 ≤ 9; omega)
  have hlt3 := y0.lt
  have hg3 := hr3.lt
  have hg2 := hr2.lt
  clear b3 hr2 hG2 S2 hv hh hlv hlh
  go_wp2_with fail
  refine (l2Place_c g (0 + 30 + 2) _ (hr3.grow (by repeat (first | exact Grow.refl _ | assumption | refine Grow.alloc ?_ _ | refine Grow.drew ?_ | refine Grow.drewN ?_ _ | refine Grow.trans ?_ (by assumption) | refine Grow.below ?_ (by assumption) (by first | exact Nat.le_refl _ | omega)))) (by omega)).mono ?_
  rintro e w7 ⟨⟨a, ha, rfl⟩, hr7, g7⟩
  have y0 := (y0.grow (show Grow w3 _ from Grow.alloc (Grow.refl _) _)).kept g7 (by intro e; injection e with e; omega)
  have y3 := (Box2.new w3 25 (.slice A3 v.length c3) (.slice B3 h.length d3)).kept g7 (by intro e; injection e with e; omega)
  have o7 := (o3.grow (show Grow w3 _ from Grow.alloc (Grow.refl _) _)).by_ g7 (by omega)
  have hG7 : Grow w w7 := (hG.trans (show Grow w3 _ from Grow.alloc (Grow.refl _) _)).grown g7 (fun k hk => by injection hk with hk; omega)
  have hs7 := y3.lt
  obtain ⟨k0, k1, _, _⟩ := y3.facts
  clear g7 o3 hG
  obtain ⟨j0, j1, e0, e1⟩ := y0.facts
  go_wp2_with fail
  go_region_held3 (fun W => W.cell? ⟨w3.heap.size, 0, none⟩ = some (.slice A3 v.length c3) ∧ W.cell? ⟨w3.heap.size, 1, none⟩ = some (.slice B3 h.length d3))
    (first
      | go_keep
      | (go_split_ands; exact ⟨g4.cell (by assumption) (by intro e; injection e with e; exact absurd (show w3.heap.size = g from e) (by omega)), g4.cell (by assumption) (by intro e; injection e with e; exact absurd (show w3.heap.size = g from e) (by omega))⟩)
      | (go_split_ands; exact ⟨(World.cell?_setCell_other _ _ _ _ (by intro e; injection e with e; exact absurd e (by omega))).trans ((World.cell?_setCell_other _ _ _ _ (by intro e; injection e with e; exact absurd e (by omega))).trans (by assumption)), (World.cell?_setCell_other _ _ _ _ (by intro e; injection e with e; exact absurd e (by omega))).trans ((World.cell?_setCell_other _ _ _ _ (by intro e; injection e with e; exact absurd e (by omega))).trans (by assumption))⟩))
    ((go_at_call 42; refine (l2Place_c g (0 + 30 + 2 + 1) _ (hr7.grow (by repeat (first | exact Grow.refl _ | assumption | refine Grow.alloc ?_ _ | refine Grow.drew ?_ | refine Grow.drewN ?_ _ | refine Grow.trans ?_ (by assumption) | refine Grow.below ?_ (by assumption) (by first | exact Nat.le_refl _ | omega)))) (by omega)).mono ?_; rintro e w4 ⟨⟨p, hp, rfl⟩, hr4, g4⟩; have y5 := (y0.grow (show Grow w7 _ from (by repeat (first | exact Grow.refl _ | assumption | refine Grow.alloc ?_ _ | refine Grow.drew ?_ | refine Grow.drewN ?_ _ | refine Grow.trans ?_ (by assumption) | refine Grow.below ?_ (by assumption) (by first | exact Nat.le_refl _ | omega))))).kept g4 (by intro e; injection e with e; omega); obtain ⟨i0, i1, f0, f1⟩ := y5.facts))
  have o4 := (o7.grow (show Grow w7 _ from (by repeat (first | exact Grow.refl _ | assumption | refine Grow.alloc ?_ _ | refine Grow.drew ?_ | refine Grow.drewN ?_ _ | refine Grow.trans ?_ (by assumption) | refine Grow.below ?_ (by assumption) (by first | exact Nat.le_refl _ | omega))))).by_ g4 (by omega)
  have hG4 : Grow w w4 := (hG7.trans (show Grow w7 _ from (by repeat (first | exact Grow.refl _ | assumption | refine Grow.alloc ?_ _ | refine Grow.drew ?_ | refine Grow.drewN ?_ _ | refine Grow.trans ?_ (by assumption) | refine Grow.below ?_ (by assumption) (by first | exact Nat.le_refl _ | omega))))).grown g4 (fun k hk => by injection hk with hk; omega)
  go_wp2
  refine bodyPost_ret (v := .tuple #[sval A3 B3 c3 d3 ⟨v, h⟩, .int .i64 a, .int .i64 p]) (by simp [results, Try.results29, go_sem, i0, i1]) rfl ⟨A3, B3, c3, d3, v, h, a, p, rfl, ?_, ⟨hv8, hh9⟩, ha, hp, ?_⟩
  · exact ((o4.far (by show w.heap.size < w2.heap.size; omega) _).far (by show w.heap.size < w2.heap.size; omega) _).lo (by omega)
  · exact (hG4.setCell (Nat.le_refl _) _).setCell (Nat.le_refl _) _

theorem DrawWalkCells_c (A : Option Addr) (n c : Nat) (w : World) (hb : Bytes w A n) (hn : n ≤ 9223372036854775807) (hc : n ≤ c) :
    Calls Try.prog 21 #[.slice A n c] w (Drawn2 w) := by
  have y0 := Box2.new w 25 (.slice none 0 0) (.slice none 0 0)
  go_enter Try.func21, Try.ntmps21
  go_wp2_with fail
  refine (DrawWriteCell_c A n c _ (hb.grow (by repeat (first | exact Grow.refl _ | assumption | refine Grow.alloc ?_ _ | refine Grow.drew ?_ | refine Grow.drewN ?_ _ | refine Grow.trans ?_ (by assumption) | refine Grow.below ?_ (by assumption) (by first | exact Nat.le_refl _ | omega)))) hn hc).mono ?_
  rintro e w1 ⟨A1, B1, c1, d1, v, h, a, p, rfl, o1, hl, ha, hp, g1⟩
  have y1 := y0.grow g1
  obtain ⟨j0, j1, e0, e1⟩ := y1.facts
  simp only [World.size_alloc] at o1
  go_wp2_with fail
  refine bodyPost_ret (v := .tuple #[sval A1 B1 c1 d1 ⟨v, h⟩, .int .i64 a, .int .i64 p]) (by simp [results, Try.results21, go_sem, j0, j1]) rfl ⟨A1, B1, c1, d1, v, h, a, p, rfl, ?_, hl, ha, hp, ?_⟩
  · exact ((o1.far (by show w.heap.size < w.heap.size + 1; omega) _).far (by show w.heap.size < w.heap.size + 1; omega) _).lo (by omega)
  · exact ((show Grow w w1 from (by repeat (first | exact Grow.refl _ | assumption | refine Grow.alloc ?_ _ | refine Grow.drew ?_ | refine Grow.drewN ?_ _ | refine Grow.trans ?_ (by assumption) | refine Grow.below ?_ (by assumption) (by first | exact Nat.le_refl _ | omega)))).setCell (Nat.le_refl _) _).setCell (Nat.le_refl _) _

set_option maxHeartbeats 1600000 in
theorem DrawSetTerm_c (A : Option Addr) (n c : Nat) (w : World) (hb : Bytes w A n) (hn : n ≤ 9223372036854775807) (hc : n ≤ c) :
    Calls Try.prog 12 #[.slice A n c] w (Drawn2 w) := by
  have y0 := Box2.new w 25 (.slice none 0 0) (.slice none 0 0)
  go_enter Try.func12, Try.ntmps12
  go_wp2_with fail
  refine (l18Open_c A n c _ (hb.grow (by repeat (first | exact Grow.refl _ | assumption | refine Grow.alloc ?_ _ | refine Grow.drew ?_ | refine Grow.drewN ?_ _ | refine Grow.trans ?_ (by assumption) | refine Grow.below ?_ (by assumption) (by first | exact Nat.le_refl _ | omega)))) hn hc).mono ?_
  rintro e w1 ⟨g, rfl, hr1, hgl, g1⟩
  simp only [World.size_alloc] at hgl
  have y0 := y0.grow g1
  have hG1 : Grow w w1 := (by repeat (first | exact Grow.refl _ | assumption | refine Grow.alloc ?_ _ | refine Grow.drew ?_ | refine Grow.drewN ?_ _ | refine Grow.trans ?_ (by assumption) | refine Grow.below ?_ (by assumption) (by first | exact Nat.le_refl _ | omega)))
  have hs1 := y0.lt
  clear g1 hb
  go_wp2_with fail
  refine (l2Draw_c g 0 _ hr1 (by omega)).mono ?_
  rintro e w2 ⟨⟨A2, B2, c2, d2, v2, h2, rfl, o2, hv2, hh2⟩, hr2, b2⟩
  have y0 := y0.kept b2 (by intro e; injection e with e; omega)
  have hG2 : Grow w w2 := hG1.grown b2 (fun k hk => by injection hk with hk; omega)
  have hs2 := b2.size
  have S2 : Sts w2 A2 B2 ⟨v2, h2⟩ := o2.st
  have hlv : v2.length ≤ 8 := by omega
  have hlh : h2.length ≤ 8 := by omega
  clear b2 hr1 hG1 o2 hv2 hh2
  go_wp2_with fail
  refine (l2Mutate_c g _ A2 B2 c2 d2 ⟨v2, h2⟩ _ hr2 (by omega) S2 (by show v2.length ≤ _; omega) (by show h2.length ≤ _; omega)).mono ?_
  rintro e w3 ⟨⟨A3, B3, c3, d3, v, h, rfl, o3, hv, hh⟩, hr3, b3⟩
  have y0 := y0.kept b3 (by intro e; injection e with e; omega)
  have hG : Grow w w3 := hG2.grown b3 (fun k hk => by injection hk with hk; omega)
  have hs3 := b3.size
  have hv8 : v.length ≤ 8 := Nat.le_trans hv hlv
  have hh9 : h.length ≤ 9 := Nat.le_trans hh (by show h2.length + 1 ≤ 9; omega)
  have hlt3 := y0.lt
  have hg3 := hr3.lt
  have hg2 := hr2.lt
  clear b3 hr2 hG2 S2 hv hh hlv hlh
  go_wp2_with fail
  have hlit := lit_own (w3.alloc (.cells #[.slice A3 v.length c3, .slice B3 h.length d3] 25)) [1, 2, 5, 8, 0, 9] _ rfl (by simp)
  simp only [World.size_alloc] at hlit
  refine (num_c g (0 + 30 + 2) 6 (w3.heap.size + 1) _ [1, 2, 5, 8, 0, 9] _ (hr3.grow (by repeat (first | exact Grow.refl _ | assumption | refine Grow.alloc ?_ _ | refine Grow.drew ?_ | refine Grow.drewN ?_ _ | refine Grow.trans ?_ (by assumption) | refine Grow.below ?_ (by assumption) (by first | exact Nat.le_refl _ | omega)))) (by omega) (by simp) (by simp) hlit (by omega)).mono ?_
  rintro e w7 ⟨⟨a, ha0, rfl⟩, hr7, g7⟩
  have ha : -1 ≤ a ∧ a ≤ 9 := by simp at ha0; omega
  have y0 := (y0.grow (show Grow w3 _ from (by repeat (first | exact Grow.refl _ | assumption | refine Grow.alloc ?_ _ | refine Grow.drew ?_ | refine Grow.drewN ?_ _ | refine Grow.trans ?_ (by assumption) | refine Grow.below ?_ (by assumption) (by first | exact Nat.le_refl _ | omega))))).kept g7 (by intro e; injection e with e; omega)
  have y3 := ((Box2.new w3 25 (.slice A3 v.length c3) (.slice B3 h.length d3)).grow (show Grow _ _ from Grow.alloc (Grow.refl _) _)).kept g7 (by intro e; injection e with e; omega)
  have o7 := (o3.grow (show Grow w3 _ from (by repeat (first | exact Grow.refl _ | assumption | refine Grow.alloc ?_ _ | refine Grow.drew ?_ | refine Grow.drewN ?_ _ | refine Grow.trans ?_ (by assumption) | refine Grow.below ?_ (by assumption) (by first | exact Nat.le_refl _ | omega))))).by_ g7 (by omega)
  have hG7 : Grow w w7 := (hG.trans (show Grow w3 _ from (by repeat (first | exact Grow.refl _ | assumption | refine Grow.alloc ?_ _ | refine Grow.drew ?_ | refine Grow.drewN ?_ _ | refine Grow.trans ?_ (by assumption) | refine Grow.below ?_ (by assumption) (by first | exact Nat.le_refl _ | omega))))).grown g7 (fun k hk => by injection hk with hk; omega)
  have hs7 := y3.lt
  obtain ⟨k0, k1, _, _⟩ := y3.facts
  clear g7 o3 hG hlit ha0
  obtain ⟨j0, j1, e0, e1⟩ := y0.facts
  go_wp2_with fail
  go_region_held3 (fun W => W.cell? ⟨w3.heap.size, 0, none⟩ = some (.slice A3 v.length c3) ∧ W.cell? ⟨w3.heap.size, 1, none⟩ = some (.slice B3 h.length d3))
    (first
      | go_keep
      | (go_split_ands; exact ⟨g4.cell (by assumption) (by intro e; injection e with e; exact absurd (show w3.heap.size = g from e) (by omega)), g4.cell (by assumption) (by intro e; injection e with e; exact absurd (show w3.heap.size = g from e) (by omega))⟩)
      | (go_split_ands; exact ⟨(World.cell?_setCell_other _ _ _ _ (by intro e; injection e with e; exact absurd e (by omega))).trans ((World.cell?_setCell_other _ _ _ _ (by intro e; injection e with e; exact absurd e (by omega))).trans (by assumption)), (World.cell?_setCell_other _ _ _ _ (by intro e; injection e with e; exact absurd e (by omega))).trans ((World.cell?_setCell_other _ _ _ _ (by intro e; injection e with e; exact absurd e (by omega))).trans (by assumption))⟩))
    ((go_at_call 42; refine (l2Place_c g (0 + 30 + 2 + 1) _ (hr7.grow (by repeat (first | exact Grow.refl _ | assumption | refine Grow.alloc ?_ _ | refine Grow.drew ?_ | refine Grow.drewN ?_ _ | refine Grow.trans ?_ (by assumption) | refine Grow.below ?_ (by assumption) (by first | exact Nat.le_refl _ | omega)))) (by omega)).mono ?_; rintro e w4 ⟨⟨p, hp, rfl⟩, hr4, g4⟩; have y5 := (y0.grow (show Grow w7 _ from (by repeat (first | exact Grow.refl _ | assumption | refine Grow.alloc ?_ _ | refine Grow.drew ?_ | refine Grow.drewN ?_ _ | refine Grow.trans ?_ (by assumption) | refine Grow.below ?_ (by assumption) (by first | exact Nat.le_refl _ | omega))))).kept g4 (by intro e; injection e with e; omega); obtain ⟨i0, i1, f0, f1⟩ := y5.facts))
  have o4 := (o7.grow (show Grow w7 _ from (by repeat (first | exact Grow.refl _ | assumption | refine Grow.alloc ?_ _ | refine Grow.drew ?_ | refine Grow.drewN ?_ _ | refine Grow.trans ?_ (by assumption) | refine Grow.below ?_ (by assumption) (by first | exact Nat.le_refl _ | omega))))).by_ g4 (by omega)
  have hG4 : Grow w w4 := (hG7.trans (show Grow w7 _ from (by repeat (first | exact Grow.refl _ | assumption | refine Grow.alloc ?_ _ | refine Grow.drew ?_ | refine Grow.drewN ?_ _ | refine Grow.trans ?_ (by assumption) | refine Grow.below ?_ (by assumption) (by first | exact Nat.le_refl _ | omega))))).grown g4 (fun k hk => by injection hk with hk; omega)
  go_wp2
  refine bodyPost_ret (v := .tuple #[sval A3 B3 c3 d3 ⟨v, h⟩, .int .i64 a, .int .i64 p]) (by simp [results, Try.results12, go_sem, i0, i1]) rfl ⟨A3, B3, c3, d3, v, h, a, p, rfl, ?_, ⟨hv8, hh9⟩, ha, hp, ?_⟩
  · exact ((o4.far (by show w.heap.size < w2.heap.size; omega) _).far (by show w.heap.size < w2.heap.size; omega) _).lo (by omega)
  · exact (hG4.setCell (Nat.le_refl _) _).setCell (Nat.le_refl _) _

theorem slHas_c (A : Option Addr) (c : Nat) (l : List Int) (x : Int) (w : World) (hA : Ints w A l) (hn : l.length ≤ 4194304) :
    Calls Try.prog 28 #[.slice A l.length c, .int .i64 x] w fun e w' => e = .returned (.bool (decide (x ∈ l))) ∧ w = w' := by
  go_enter Try.func28, Try.ntmps28
  go_wp2
  go_loop [5] (fun i => ∃ k : Nat, k ≤ l.length ∧ i = .int .i64 k ∧ Hid (∀ y ∈ l.take k, y ≠ x)) (fun i => l.length - (intOf i).toNat)
  case atStart => exact ⟨0, by omega, rfl, Lib.hid (by simp)⟩
  case round =>
    obtain ⟨k, hk, rfl, HV⟩ := hrel
    by_cases hlt : k < l.length
    · obtain ⟨b, off, rfl, c0⟩ := hA.at_ hlt
      by_cases he : l[k] = x
      · have HX := Lib.hid (show decide (x ∈ l) = true from decide_eq_true (he ▸ List.getElem_mem hlt))
        have hb : (l[k] == x) = true := by simp [he]
        clear he
        go_wp2
        go_ret
        exact ⟨by rw [HX.out]; rfl, rfl⟩
      · have HN := Lib.hid he
        have hb : (l[k] == x) = false := by simp [he]
        clear he
        go_wp2
        go_round
        case rel => exact ⟨k + 1, by omega, by go_num, Lib.hid (al_step hlt HV.out HN.out)⟩
        case measure => simp [intOf]; omega
    · have HX := Lib.hid (show decide (x ∈ l) = false from decide_eq_false (fun hm => al_done hlt HV.out x hm rfl))
      go_wp2
      go_ret
      exact ⟨by rw [HX.out]; rfl, rfl⟩

end Go.Proofs.Ytagihhainhdhfaa
