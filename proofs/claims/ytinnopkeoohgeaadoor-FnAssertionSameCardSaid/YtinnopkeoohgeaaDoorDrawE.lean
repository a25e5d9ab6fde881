/- The draw of two assertions. No conditions. -/
import Derived.Test.YtinnopkeoohgeaaDoorDrawC
import Derived.Test.YtinnopkeoohgeaaDoorPopHeld
namespace Go.Proofs.YtinnopkeoohgeaaDoor
open Go.RowKit
set_option linter.unusedVariables false

/-- Two assertions were drawn. -/
def DrawnAA (w : World) (e : Ending) (w' : World) : Prop := ∃ A B c d s A9 B9 c9 d9 t, e = .returned (.tuple #[asval A B c d s, asval A9 B9 c9 d9 t]) ∧ OAs w' w.heap.size A B c d s ∧ OAs w' w.heap.size A9 B9 c9 d9 t ∧ (s.f.length ≤ 100 ∧ s.a.length ≤ 100) ∧ (t.f.length ≤ 100 ∧ t.a.length ≤ 100) ∧ Grow w w'


set_option maxRecDepth 100000 in
set_option maxHeartbeats 3200000 in
theorem DrawAssertionSame_c (A : Option Addr) (n c : Nat) (w : World) (hb : Bytes w A n) (hn : n ≤ 9223372036854775807) (hc : n ≤ c) :
    Calls Tryd.prog 52 #[.slice A n c] w (DrawnAA w) := by
  have y2 := (Box2.new w 60 (.slice none 0 0) (.slice none 0 0)).grow (show Grow _ ((w.alloc (.cells #[.slice none 0 0, .slice none 0 0] 60)).alloc (.cells #[.slice none 0 0, .slice none 0 0] 60)) from Grow.alloc (Grow.refl _) _)
  have y3 := Box2.new (w.alloc (.cells #[.slice none 0 0, .slice none 0 0] 60)) 60 (.slice none 0 0) (.slice none 0 0)
  have G0 : Grow w ((w.alloc (.cells #[.slice none 0 0, .slice none 0 0] 60)).alloc (.cells #[.slice none 0 0, .slice none 0 0] 60)) := (by repeat (first | exact Grow.refl _ | assumption | refine Grow.alloc ?_ _ | refine Grow.drew ?_ | refine Grow.drewN ?_ _ | refine Grow.trans ?_ (by assumption) | refine Grow.below ?_ (by assumption) (by first | exact Nat.le_refl _ | omega)))
  have hz0 : ((w.alloc (.cells #[.slice none 0 0, .slice none 0 0] 60)).alloc (.cells #[.slice none 0 0, .slice none 0 0] 60)).heap.size = w.heap.size + 2 := by simp
  simp only [World.size_alloc] at y3
  go_enter Tryd.func52, Tryd.ntmps52
  go_wp2_with fail
  generalize (w.alloc (.cells #[.slice none 0 0, .slice none 0 0] 60)).alloc (.cells #[.slice none 0 0, .slice none 0 0] 60) = w2 at *
  refine (l18Open_c A n c _ (hb.grow G0) hn hc).mono ?_
  rintro e w3 ⟨g, rfl, hr3, hgl, g3⟩
  replace y2 := y2.grow g3
  replace y3 := y3.grow g3
  replace G0 := G0.trans g3
  have hs3 := g3.le
  have hg3 := hr3.lt
  clear g3 hb
  go_wp2_with fail
  refine (l3Draw_c g 0 _ hr3 (by omega)).mono ?_
  rintro e w4 ⟨⟨A4, B4, c4, d4, s, rfl, o4, _, hv, hh⟩, hr4, b4⟩
  replace y2 := y2.kept b4 (by intro e; injection e with e; omega)
  replace y3 := y3.kept b4 (by intro e; injection e with e; omega)
  have G4 : Grow w w4 := G0.grown b4 (fun k hk => by injection hk with hk; omega)
  have hs4 := b4.size
  clear b4 hr3 G0
  have y5 := Box2.new w4 60 (.slice A4 s.f.length c4) (.slice B4 s.a.length d4)
  have q : Grow w4 (w4.alloc (.cells #[.slice A4 s.f.length c4, .slice B4 s.a.length d4] 60)) := (by repeat (first | exact Grow.refl _ | assumption | refine Grow.alloc ?_ _ | refine Grow.drew ?_ | refine Grow.drewN ?_ _ | refine Grow.trans ?_ (by assumption) | refine Grow.below ?_ (by assumption) (by first | exact Nat.le_refl _ | omega)))
  replace y2 := y2.grow q
  replace y3 := y3.grow q
  have o5 := o4.grow q
  replace hr4 := hr4.grow q
  replace G4 := G4.trans q
  have hs5 := y5.lt
  clear q
  go_wp2_with fail
  generalize w4.alloc (.cells #[.slice A4 s.f.length c4, .slice B4 s.a.length d4] 60) = w5 at *
  refine (pick_c g _ 2 _ hr4 (by omega) (by omega) (by omega)).mono ?_
  rintro e w6 ⟨⟨p, hp, rfl⟩, hr6, b6⟩
  replace y2 := y2.kept b6 (by intro e; injection e with e; omega)
  replace y3 := y3.kept b6 (by intro e; injection e with e; omega)
  replace y5 := y5.kept b6 (by intro e; injection e with e; omega)
  have o6 := o5.kept b6 (fun j hj => by injection hj with hj; omega)
  have G6 : Grow w w6 := G4.grown b6 (fun k hk => by injection hk with hk; omega)
  have hs6 := b6.size
  clear b6 hr4 G4 o5 o4
  obtain ⟨k0, k1, _, _⟩ := y5.facts
  obtain ⟨j0, j1, e0, e1⟩ := y2.facts
  obtain ⟨i0, i1, f0, f1⟩ := y3.facts
  have hb5 : ¬ w4.heap.size = g := by omega
  have qd : Grow w6 w6.drew := (by repeat (first | exact Grow.refl _ | assumption | refine Grow.alloc ?_ _ | refine Grow.drew ?_ | refine Grow.drewN ?_ _ | refine Grow.trans ?_ (by assumption) | refine Grow.below ?_ (by assumption) (by first | exact Nat.le_refl _ | omega)))
  have hdz : w6.drew.heap.size = w6.heap.size := rfl
  by_cases hp0 : p = 0
  · have hp1 : ((p : Int) == 0) = true := by rw [beq_iff_eq]; omega
    clear hp0 hp
    go_wp2_with fail
    refine wp_region_held_drew (S := (fun W => W.cell? ⟨w4.heap.size, 0, none⟩ = some (.slice A4 s.f.length c4) ∧ W.cell? ⟨w4.heap.size, 1, none⟩ = some (.slice B4 s.a.length d4))) (by kernel_rfl) ?_ (fun hHeld => ?_)
    · exact ⟨k0, k1⟩
    refine pop_take 0 (v := ?_) rfl (by kernel_rfl) (by kernel_rfl) (by kernel_rfl) (fun _ _ _ h => h) (by rfl) (by assumption) ?_ ?_
    rotate_left 1
    · (intro W hSw; (try dsimp only at hSw); go_simp; (try with_reducible rfl))
    (try simp only [Act.put, List.setIfInBounds_toArray, List.set_cons_zero, List.set_cons_succ])
    refine pop_take 1 (v := ?_) rfl (by kernel_rfl) (by kernel_rfl) (by kernel_rfl) (fun _ _ _ h => h) (by rfl) (by assumption) ?_ ?_
    rotate_left 1
    · (intro W hSw; (try dsimp only at hSw); go_simp; (try with_reducible rfl))
    (try simp only [Act.put, List.setIfInBounds_toArray, List.set_cons_zero, List.set_cons_succ])
    refine pop_one 2 (by kernel_rfl) rfl (fun K hK => ?_)
    go_simp
    (go_at_call 110; refine (l3Draw_c g _ _ (hr6.grow qd) (by omega)).mono ?_; rintro e w8 ⟨⟨A8, B8, c8, d8, s8, rfl, o8, _, hv8, hh8⟩, hr8, b8⟩)
    go_wp2_with fail
    refine hK.out _ _ ?_ (fun hHeld => ?_)
    · exact ⟨b8.cell hHeld.1 (fun e => hb5 (by injection e)), b8.cell hHeld.2 (fun e => hb5 (by injection e))⟩
    clear hK K
    (try simp only [Act.put, List.setIfInBounds_toArray, List.set_cons_zero, List.set_cons_succ])
    have b9 := by_trans (qd.by_ (some g)) b8
    have z2 := y2.kept b9 (by intro e; injection e with e; omega)
    have z3 := y3.kept b9 (by intro e; injection e with e; omega)
    have oA9 := o6.kept b9 (fun j hj => by injection hj with hj; omega)
    have G9 : Grow w w8 := G6.grown b9 (fun k hk => by injection hk with hk; omega)
    have hs9 := b9.size
    obtain ⟨j0, j1, e0, e1⟩ := z2.facts
    obtain ⟨i0, i1, f0, f1⟩ := z3.facts
    refine pop_one 3 (by decide +kernel) rfl (fun K' hK => ?_)
    go_simp
    refine hK.out _ _ ⟨cell_far2 (by omega) hHeld.1, cell_far2 (by omega) hHeld.2⟩ (fun hHeld => ?_)
    clear hK K'
    (try simp only [Act.put, List.setIfInBounds_toArray, List.set_cons_zero, List.set_cons_succ])
    refine pop_one 4 (by decide +kernel) rfl (fun K' hK => ?_)
    go_simp
    refine hK.out _ _ ⟨cell_far2 (by omega) hHeld.1, cell_far2 (by omega) hHeld.2⟩ (fun hHeld => ?_)
    clear hK K'
    (try simp only [Act.put, List.setIfInBounds_toArray, List.set_cons_zero, List.set_cons_succ])
    refine wpAnyH_done (by kernel_rfl) ?_ _
    clear hHeld
    go_wp2_with fail
    refine bodyPost_ret (v := .tuple #[asval A4 B4 c4 d4 s, asval A8 B8 c8 d8 s8]) (by simp [results, Tryd.results52, go_sem, j0, j1, i0, i1]) rfl ⟨A4, B4, c4, d4, s, A8, B8, c8, d8, s8, rfl, ?_, ?_, ⟨by omega, by omega⟩, ⟨by omega, by omega⟩, ?_⟩
    · exact ((((oA9.far (by show w.heap.size < _; omega) _).far (by show w.heap.size < _; omega) _).far (by show w.heap.size + 1 < _; omega) _).far (by show w.heap.size + 1 < _; omega) _).lo (by omega)
    · exact ((((o8.far (by show w.heap.size < _; omega) _).far (by show w.heap.size < _; omega) _).far (by show w.heap.size + 1 < _; omega) _).far (by show w.heap.size + 1 < _; omega) _).lo (by omega)
    · exact (((G9.setCell (Nat.le_refl _) _).setCell (Nat.le_refl _) _).setCell (by show w.heap.size ≤ w.heap.size + 1; omega) _).setCell (by show w.heap.size ≤ w.heap.size + 1; omega) _
  · have hp1 : ((p : Int) == 0) = false := by rw [beq_eq_false_iff_ne]; omega
    clear hp0 hp
    go_wp2_with fail
    refine wp_region_held_drew (S := (fun W => W.cell? ⟨w4.heap.size, 0, none⟩ = some (.slice A4 s.f.length c4) ∧ W.cell? ⟨w4.heap.size, 1, none⟩ = some (.slice B4 s.a.length d4))) (by kernel_rfl) ?_ (fun hHeld => ?_)
    · exact ⟨k0, k1⟩
    refine pop_take 0 (v := ?_) rfl (by kernel_rfl) (by kernel_rfl) (by kernel_rfl) (fun _ _ _ h => h) (by rfl) (by assumption) ?_ ?_
    rotate_left 1
    · (intro W hSw; (try dsimp only at hSw); go_simp; (try with_reducible rfl))
    (try simp only [Act.put, List.setIfInBounds_toArray, List.set_cons_zero, List.set_cons_succ])
    refine pop_take 1 (v := ?_) rfl (by kernel_rfl) (by kernel_rfl) (by kernel_rfl) (fun _ _ _ h => h) (by rfl) (by assumption) ?_ ?_
    rotate_left 1
    · (intro W hSw; (try dsimp only at hSw); go_simp; (try with_reducible rfl))
    (try simp only [Act.put, List.setIfInBounds_toArray, List.set_cons_zero, List.set_cons_succ])
    refine pop_take 2 (v := ?_) rfl (by kernel_rfl) (by kernel_rfl) (by kernel_rfl) (fun _ _ _ h => h) (by rfl) (by assumption) ?_ ?_
    rotate_left 1
    · (intro W hSw; (try dsimp only at hSw); go_simp; (try with_reducible rfl))
    (try simp only [Act.put, List.setIfInBounds_toArray, List.set_cons_zero, List.set_cons_succ])
    refine pop_take 3 (v := ?_) rfl (by kernel_rfl) (by kernel_rfl) (by kernel_rfl) (fun _ _ _ h => h) (by rfl) (by assumption) ?_ ?_
    rotate_left 1
    · (intro W hSw; (try dsimp only at hSw); go_simp; (try with_reducible rfl))
    (try simp only [Act.put, List.setIfInBounds_toArray, List.set_cons_zero, List.set_cons_succ])
    refine pop_one 4 (by kernel_rfl) rfl (fun K hK => ?_)
    go_simp
    (go_at_call 111; refine (l3Mutate_c g _ A4 B4 c4 d4 s _ (hr6.grow qd) (by omega) (o6.st.grow qd) (by omega) (by omega)).mono ?_; rintro e w7 ⟨⟨A7, B7, c7, d7, s7, rfl, o7, hv7, hh7⟩, hr7, b7⟩)
    go_wp2_with fail
    refine hK.out _ _ ?_ (fun hHeld => ?_)
    · exact ⟨b7.cell hHeld.1 (fun e => hb5 (by injection e)), b7.cell hHeld.2 (fun e => hb5 (by injection e))⟩
    clear hK K
    (try simp only [Act.put, List.setIfInBounds_toArray, List.set_cons_zero, List.set_cons_succ])
    refine pop_one 5 (by kernel_rfl) rfl (fun K hK => ?_)
    go_simp
    (go_at_call 111; refine (l3Mutate_c g _ A7 B7 c7 d7 s7 _ hr7 (by omega) o7.st (by omega) (by omega)).mono ?_; rintro e w8 ⟨⟨A8, B8, c8, d8, s8, rfl, o8, hv8, hh8⟩, hr8, b8⟩)
    go_wp2_with fail
    refine hK.out _ _ ?_ (fun hHeld => ?_)
    · exact ⟨b8.cell hHeld.1 (fun e => hb5 (by injection e)), b8.cell hHeld.2 (fun e => hb5 (by injection e))⟩
    clear hK K
    (try simp only [Act.put, List.setIfInBounds_toArray, List.set_cons_zero, List.set_cons_succ])
    have b7' := by_trans (qd.by_ (some g)) b7
    have b9 := by_trans b7' b8
    have hs7 := b7'.size
    have z2 := y2.kept b9 (by intro e; injection e with e; omega)
    have z3 := y3.kept b9 (by intro e; injection e with e; omega)
    have oA9 := o6.kept b9 (fun j hj => by injection hj with hj; omega)
    have G9 : Grow w w8 := G6.grown b9 (fun k hk => by injection hk with hk; omega)
    have hs9 := b9.size
    obtain ⟨j0, j1, e0, e1⟩ := z2.facts
    obtain ⟨i0, i1, f0, f1⟩ := z3.facts
    refine pop_one 6 (by decide +kernel) rfl (fun K' hK => ?_)
    go_simp
    refine hK.out _ _ ⟨cell_far2 (by omega) hHeld.1, cell_far2 (by omega) hHeld.2⟩ (fun hHeld => ?_)
    clear hK K'
    (try simp only [Act.put, List.setIfInBounds_toArray, List.set_cons_zero, List.set_cons_succ])
    refine pop_one 7 (by decide +kernel) rfl (fun K' hK => ?_)
    go_simp
    refine hK.out _ _ ⟨cell_far2 (by omega) hHeld.1, cell_far2 (by omega) hHeld.2⟩ (fun hHeld => ?_)
    clear hK K'
    (try simp only [Act.put, List.setIfInBounds_toArray, List.set_cons_zero, List.set_cons_succ])
    refine wpAnyH_done (by kernel_rfl) ?_ _
    clear hHeld
    go_wp2_with fail
    refine bodyPost_ret (v := .tuple #[asval A4 B4 c4 d4 s, asval A8 B8 c8 d8 s8]) (by simp [results, Tryd.results52, go_sem, j0, j1, i0, i1]) rfl ⟨A4, B4, c4, d4, s, A8, B8, c8, d8, s8, rfl, ?_, ?_, ⟨by omega, by omega⟩, ⟨by omega, by omega⟩, ?_⟩
    · exact ((((oA9.far (by show w.heap.size < _; omega) _).far (by show w.heap.size < _; omega) _).far (by show w.heap.size + 1 < _; omega) _).far (by show w.heap.size + 1 < _; omega) _).lo (by omega)
    · exact ((((o8.far (by show w.heap.size < _; omega) _).far (by show w.heap.size < _; omega) _).far (by show w.heap.size + 1 < _; omega) _).far (by show w.heap.size + 1 < _; omega) _).lo (by omega)
    · exact (((G9.setCell (Nat.le_refl _) _).setCell (Nat.le_refl _) _).setCell (by show w.heap.size ≤ w.heap.size + 1; omega) _).setCell (by show w.heap.size ≤ w.heap.size + 1; omega) _

end Go.Proofs.YtinnopkeoohgeaaDoor
