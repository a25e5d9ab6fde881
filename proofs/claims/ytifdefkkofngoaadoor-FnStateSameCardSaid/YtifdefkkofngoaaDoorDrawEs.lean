/- The draw of two states. No conditions. -/
import Derived.Test.YtifdefkkofngoaaDoorDrawS2
import Derived.Test.YtifdefkkofngoaaDoorDrawP
import Derived.Test.YtifdefkkofngoaaDoorPopHeld
namespace Go.Proofs.YtifdefkkofngoaaDoor
open Go.RowKit
set_option linter.unusedVariables false

theorem cell_fars {w : World} {g i k : Nat} {x y u : Value} (hne : g ≠ i) (h : w.cell? ⟨g, k, none⟩ = some u) : ((w.setCell ⟨i, 0, none⟩ x).setCell ⟨i, 1, none⟩ y).cell? ⟨g, k, none⟩ = some u := by
  rw [World.cell?_setCell_other _ _ _ _ (fun e => hne (by injection e with e _ _; exact e.symm)), World.cell?_setCell_other _ _ _ _ (fun e => hne (by injection e with e _ _; exact e.symm))]; exact h

/-- Two states were drawn. -/
def DrawnSS (w : World) (e : Ending) (w' : World) : Prop := ∃ A B c d v h A9 B9 c9 d9 v9 h9, e = .returned (.tuple #[sval A B c d ⟨v, h⟩, sval A9 B9 c9 d9 ⟨v9, h9⟩]) ∧ OSt w' w.heap.size A B c d ⟨v, h⟩ ∧ OSt w' w.heap.size A9 B9 c9 d9 ⟨v9, h9⟩ ∧ (v.length ≤ 100 ∧ h.length ≤ 100) ∧ (v9.length ≤ 100 ∧ h9.length ≤ 100) ∧ Grow w w'


set_option maxRecDepth 100000 in
set_option maxHeartbeats 3200000 in
theorem DrawStateSame_c (A : Option Addr) (n c : Nat) (w : World) (hb : Bytes w A n) (hn : n ≤ 9223372036854775807) (hc : n ≤ c) :
    Calls Tryd.prog 23 #[.slice A n c] w (DrawnSS w) := by
  have y2 := (Box2.new w 27 (.slice none 0 0) (.slice none 0 0)).grow (show Grow _ ((w.alloc (.cells #[.slice none 0 0, .slice none 0 0] 27)).alloc (.cells #[.slice none 0 0, .slice none 0 0] 27)) from Grow.alloc (Grow.refl _) _)
  have y3 := Box2.new (w.alloc (.cells #[.slice none 0 0, .slice none 0 0] 27)) 27 (.slice none 0 0) (.slice none 0 0)
  have G0 : Grow w ((w.alloc (.cells #[.slice none 0 0, .slice none 0 0] 27)).alloc (.cells #[.slice none 0 0, .slice none 0 0] 27)) := (by repeat (first | exact Grow.refl _ | assumption | refine Grow.alloc ?_ _ | refine Grow.drew ?_ | refine Grow.drewN ?_ _ | refine Grow.trans ?_ (by assumption) | refine Grow.below ?_ (by assumption) (by first | exact Nat.le_refl _ | omega)))
  have hz0 : ((w.alloc (.cells #[.slice none 0 0, .slice none 0 0] 27)).alloc (.cells #[.slice none 0 0, .slice none 0 0] 27)).heap.size = w.heap.size + 2 := by simp
  simp only [World.size_alloc] at y3
  go_enter Tryd.func23, Tryd.ntmps23
  go_wp2_with fail
  generalize (w.alloc (.cells #[.slice none 0 0, .slice none 0 0] 27)).alloc (.cells #[.slice none 0 0, .slice none 0 0] 27) = w2 at *
  refine (l18Open_c A n c _ (hb.grow G0) hn hc).mono ?_
  rintro e w3 ⟨g, rfl, hr3, hgl, g3⟩
  replace y2 := y2.grow g3
  replace y3 := y3.grow g3
  replace G0 := G0.trans g3
  have hs3 := g3.le
  have hg3 := hr3.lt
  clear g3 hb
  go_wp2_with fail
  refine (l2Draw_c g 0 _ hr3 (by omega)).mono ?_
  rintro e w4 ⟨⟨A4, B4, c4, d4, v, h, rfl, o4, hv0, hh0⟩, hr4, b4⟩
  have hv : v.length ≤ 8 := Nat.le_of_eq hv0
  have hh : h.length ≤ 8 := Nat.le_of_eq hh0
  clear hv0 hh0
  replace y2 := y2.kept b4 (by intro e; injection e with e; omega)
  replace y3 := y3.kept b4 (by intro e; injection e with e; omega)
  have G4 : Grow w w4 := G0.grown b4 (fun k hk => by injection hk with hk; omega)
  have hs4 := b4.size
  clear b4 hr3 G0
  have y5 := Box2.new w4 27 (.slice A4 v.length c4) (.slice B4 h.length d4)
  have q : Grow w4 (w4.alloc (.cells #[.slice A4 v.length c4, .slice B4 h.length d4] 27)) := (by repeat (first | exact Grow.refl _ | assumption | refine Grow.alloc ?_ _ | refine Grow.drew ?_ | refine Grow.drewN ?_ _ | refine Grow.trans ?_ (by assumption) | refine Grow.below ?_ (by assumption) (by first | exact Nat.le_refl _ | omega)))
  replace y2 := y2.grow q
  replace y3 := y3.grow q
  have o5 := o4.grow q
  replace hr4 := hr4.grow q
  replace G4 := G4.trans q
  have hs5 := y5.lt
  clear q
  go_wp2_with fail
  generalize w4.alloc (.cells #[.slice A4 v.length c4, .slice B4 h.length d4] 27) = w5 at *
  refine (pick_c g _ 2 _ hr4 (by omega) (by omega) (by omega)).mono ?_
  rintro e w6 ⟨⟨p, hp, rfl⟩, hr6, b6⟩
  replace y2 := y2.kept b6 (by intro e; injection e with e; omega)
  replace y3 := y3.kept b6 (by intro e; injection e with e; omega)
  replace y5 := y5.kept b6 (by intro e; injection e with e; omega)
  have o6 := o5.kept b6 (fun j hj => by injection hj with hj; omega)
  have G6 : Grow w w6 := G4.grown b6 (fun k hk => by injection hk with hk; omega)
  have hs6 := b6.size
  clear b6 hr4 G4 o5 o4
  obtain ⟨k0, k1, _, _⟩ := y5.facts
  obtain ⟨j0, j1, e0, e1⟩ := y2.facts
  obtain ⟨i0, i1, f0, f1⟩ := y3.facts
  have hb5 : ¬ w4.heap.size = g := by omega
  have qd : Grow w6 w6.drew := (by repeat (first | exact Grow.refl _ | assumption | refine Grow.alloc ?_ _ | refine Grow.drew ?_ | refine Grow.drewN ?_ _ | refine Grow.trans ?_ (by assumption) | refine Grow.below ?_ (by assumption) (by first | exact Nat.le_refl _ | omega)))
  have hdz : w6.drew.heap.size = w6.heap.size := rfl
  by_cases hp0 : p = 0
  · have hp1 : ((p : Int) == 0) = true := by rw [beq_iff_eq]; omega
    clear hp0 hp
    go_wp2_with fail
    refine wp_region_held_drew (S := (fun W => W.cell? ⟨w4.heap.size, 0, none⟩ = some (.slice A4 v.length c4) ∧ W.cell? ⟨w4.heap.size, 1, none⟩ = some (.slice B4 h.length d4))) (by kernel_rfl) ?_ (fun hHeld => ?_)
    · exact ⟨k0, k1⟩
    refine pop_take 0 (v := ?_) rfl (by kernel_rfl) (by kernel_rfl) (by kernel_rfl) (fun _ _ _ h => h) (by rfl) (by assumption) ?_ ?_
    rotate_left 1
    · (intro W hSw; (try dsimp only at hSw); go_simp; (try with_reducible rfl))
    (try simp only [Act.put, List.setIfInBounds_toArray, List.set_cons_zero, List.set_cons_succ])
    refine pop_take 1 (v := ?_) rfl (by kernel_rfl) (by kernel_rfl) (by kernel_rfl) (fun _ _ _ h => h) (by rfl) (by assumption) ?_ ?_
    rotate_left 1
    · (intro W hSw; (try dsimp only at hSw); go_simp; (try with_reducible rfl))
    (try simp only [Act.put, List.setIfInBounds_toArray, List.set_cons_zero, List.set_cons_succ])
    refine pop_one 2 (by kernel_rfl) rfl (fun K hK => ?_)
    go_simp
    (go_at_call 60; refine (l2Draw_c g _ _ (hr6.grow qd) (by omega)).mono ?_; rintro e w8 ⟨⟨A8, B8, c8, d8, v8, h8, rfl, o8, hv80, hh80⟩, hr8, b8⟩; have hv8 : v8.length ≤ 8 := Nat.le_of_eq hv80; have hh8 : h8.length ≤ 8 := Nat.le_of_eq hh80; clear hv80 hh80)
    go_wp2_with fail
    refine hK.out _ _ ?_ (fun hHeld => ?_)
    · exact ⟨b8.cell hHeld.1 (fun e => hb5 (by injection e)), b8.cell hHeld.2 (fun e => hb5 (by injection e))⟩
    clear hK K
    (try simp only [Act.put, List.setIfInBounds_toArray, List.set_cons_zero, List.set_cons_succ])
    have b9 := by_trans (qd.by_ (some g)) b8
    have z2 := y2.kept b9 (by intro e; injection e with e; omega)
    have z3 := y3.kept b9 (by intro e; injection e with e; omega)
    have oA9 := o6.kept b9 (fun j hj => by injection hj with hj; omega)
    have G9 : Grow w w8 := G6.grown b9 (fun k hk => by injection hk with hk; omega)
    have hs9 := b9.size
    obtain ⟨j0, j1, e0, e1⟩ := z2.facts
    obtain ⟨i0, i1, f0, f1⟩ := z3.facts
    refine pop_one 3 (by decide +kernel) rfl (fun K' hK => ?_)
    go_simp
    refine hK.out _ _ ⟨cell_fars (by omega) hHeld.1, cell_fars (by omega) hHeld.2⟩ (fun hHeld => ?_)
    clear hK K'
    (try simp only [Act.put, List.setIfInBounds_toArray, List.set_cons_zero, List.set_cons_succ])
    refine pop_one 4 (by decide +kernel) rfl (fun K' hK => ?_)
    go_simp
    refine hK.out _ _ ⟨cell_fars (by omega) hHeld.1, cell_fars (by omega) hHeld.2⟩ (fun hHeld => ?_)
    clear hK K'
    (try simp only [Act.put, List.setIfInBounds_toArray, List.set_cons_zero, List.set_cons_succ])
    refine wpAnyH_done (by kernel_rfl) ?_ _
    clear hHeld
    go_wp2_with fail
    refine bodyPost_ret (v := .tuple #[sval A4 B4 c4 d4 ⟨v, h⟩, sval A8 B8 c8 d8 ⟨v8, h8⟩]) (by simp [results, Tryd.results23, go_sem, j0, j1, i0, i1]) rfl ⟨A4, B4, c4, d4, v, h, A8, B8, c8, d8, v8, h8, rfl, ?_, ?_, ⟨by omega, by omega⟩, ⟨by omega, by omega⟩, ?_⟩
    · exact ((((oA9.far (by show w.heap.size < _; omega) _).far (by show w.heap.size < _; omega) _).far (by show w.heap.size + 1 < _; omega) _).far (by show w.heap.size + 1 < _; omega) _).lo (by omega)
    · exact ((((o8.far (by show w.heap.size < _; omega) _).far (by show w.heap.size < _; omega) _).far (by show w.heap.size + 1 < _; omega) _).far (by show w.heap.size + 1 < _; omega) _).lo (by omega)
    · exact (((G9.setCell (Nat.le_refl _) _).setCell (Nat.le_refl _) _).setCell (by show w.heap.size ≤ w.heap.size + 1; omega) _).setCell (by show w.heap.size ≤ w.heap.size + 1; omega) _
  · have hp1 : ((p : Int) == 0) = false := by rw [beq_eq_false_iff_ne]; omega
    clear hp0 hp
    go_wp2_with fail
    refine wp_region_held_drew (S := (fun W => W.cell? ⟨w4.heap.size, 0, none⟩ = some (.slice A4 v.length c4) ∧ W.cell? ⟨w4.heap.size, 1, none⟩ = some (.slice B4 h.length d4))) (by kernel_rfl) ?_ (fun hHeld => ?_)
    · exact ⟨k0, k1⟩
    refine pop_take 0 (v := ?_) rfl (by kernel_rfl) (by kernel_rfl) (by kernel_rfl) (fun _ _ _ h => h) (by rfl) (by assumption) ?_ ?_
    rotate_left 1
    · (intro W hSw; (try dsimp only at hSw); go_simp; (try with_reducible rfl))
    (try simp only [Act.put, List.setIfInBounds_toArray, List.set_cons_zero, List.set_cons_succ])
    refine pop_take 1 (v := ?_) rfl (by kernel_rfl) (by kernel_rfl) (by kernel_rfl) (fun _ _ _ h => h) (by rfl) (by assumption) ?_ ?_
    rotate_left 1
    · (intro W hSw; (try dsimp only at hSw); go_simp; (try with_reducible rfl))
    (try simp only [Act.put, List.setIfInBounds_toArray, List.set_cons_zero, List.set_cons_succ])
    refine pop_take 2 (v := ?_) rfl (by kernel_rfl) (by kernel_rfl) (by kernel_rfl) (fun _ _ _ h => h) (by rfl) (by assumption) ?_ ?_
    rotate_left 1
    · (intro W hSw; (try dsimp only at hSw); go_simp; (try with_reducible rfl))
    (try simp only [Act.put, List.setIfInBounds_toArray, List.set_cons_zero, List.set_cons_succ])
    refine pop_take 3 (v := ?_) rfl (by kernel_rfl) (by kernel_rfl) (by kernel_rfl) (fun _ _ _ h => h) (by rfl) (by assumption) ?_ ?_
    rotate_left 1
    · (intro W hSw; (try dsimp only at hSw); go_simp; (try with_reducible rfl))
    (try simp only [Act.put, List.setIfInBounds_toArray, List.set_cons_zero, List.set_cons_succ])
    refine pop_take 4 (v := ?_) rfl (by kernel_rfl) (by kernel_rfl) (by kernel_rfl) (fun _ _ _ h => h) (by rfl) (by assumption) ?_ ?_
    rotate_left 1
    · (intro W hSw; (try dsimp only at hSw); go_simp; (try with_reducible rfl))
    (try simp only [Act.put, List.setIfInBounds_toArray, List.set_cons_zero, List.set_cons_succ])
    refine pop_one 5 (by kernel_rfl) rfl (fun K hK => ?_)
    go_simp
    (go_at_call 62; refine (l2Mutate_c g _ A4 B4 c4 d4 ⟨v, h⟩ _ (hr6.grow qd) (by omega) (o6.st.grow qd) (by show v.length ≤ _; omega) (by show h.length ≤ _; omega)).mono ?_; rintro e w7 ⟨⟨A7, B7, c7, d7, v7, h7, rfl, o7, hv7, hh7⟩, hr7, b7⟩; replace hv7 : v7.length ≤ v.length := hv7; replace hh7 : h7.length ≤ h.length + 1 := hh7)
    go_wp2_with fail
    refine hK.out _ _ ?_ (fun hHeld => ?_)
    · exact ⟨b7.cell hHeld.1 (fun e => hb5 (by injection e)), b7.cell hHeld.2 (fun e => hb5 (by injection e))⟩
    clear hK K
    (try simp only [Act.put, List.setIfInBounds_toArray, List.set_cons_zero, List.set_cons_succ])
    refine pop_one 6 (by kernel_rfl) rfl (fun K hK => ?_)
    go_simp
    (go_at_call 62; refine (l2Mutate_c g _ A7 B7 c7 d7 ⟨v7, h7⟩ _ hr7 (by omega) o7.st (by show v7.length ≤ _; omega) (by show h7.length ≤ _; omega)).mono ?_; rintro e wm ⟨⟨Am, Bm, cm, dm, vm, hm, rfl, om, hvm, hhm⟩, hrm, bm⟩; replace hvm : vm.length ≤ v7.length := hvm; replace hhm : hm.length ≤ h7.length + 1 := hhm)
    go_wp2_with fail
    refine hK.out _ _ ?_ (fun hHeld => ?_)
    · exact ⟨bm.cell hHeld.1 (fun e => hb5 (by injection e)), bm.cell hHeld.2 (fun e => hb5 (by injection e))⟩
    clear hK K
    (try simp only [Act.put, List.setIfInBounds_toArray, List.set_cons_zero, List.set_cons_succ])
    refine pop_one 7 (by kernel_rfl) rfl (fun K hK => ?_)
    go_simp
    (go_at_call 62; refine (l2Mutate_c g _ Am Bm cm dm ⟨vm, hm⟩ _ hrm (by omega) om.st (by show vm.length ≤ _; omega) (by show hm.length ≤ _; omega)).mono ?_; rintro e w8 ⟨⟨A8, B8, c8, d8, v8, h8, rfl, o8, hv8, hh8⟩, hr8, b8⟩; replace hv8 : v8.length ≤ vm.length := hv8; replace hh8 : h8.length ≤ hm.length + 1 := hh8)
    go_wp2_with fail
    refine hK.out _ _ ?_ (fun hHeld => ?_)
    · exact ⟨b8.cell hHeld.1 (fun e => hb5 (by injection e)), b8.cell hHeld.2 (fun e => hb5 (by injection e))⟩
    clear hK K
    (try simp only [Act.put, List.setIfInBounds_toArray, List.set_cons_zero, List.set_cons_succ])
    have b7' := by_trans (qd.by_ (some g)) b7
    have bm' := by_trans b7' bm
    have b9 := by_trans bm' b8
    have hs7 := b7'.size
    have hsm := bm'.size
    have z2 := y2.kept b9 (by intro e; injection e with e; omega)
    have z3 := y3.kept b9 (by intro e; injection e with e; omega)
    have oA9 := o6.kept b9 (fun j hj => by injection hj with hj; omega)
    have G9 : Grow w w8 := G6.grown b9 (fun k hk => by injection hk with hk; omega)
    have hs9 := b9.size
    obtain ⟨j0, j1, e0, e1⟩ := z2.facts
    obtain ⟨i0, i1, f0, f1⟩ := z3.facts
    refine pop_one 8 (by decide +kernel) rfl (fun K' hK => ?_)
    go_simp
    refine hK.out _ _ ⟨cell_fars (by omega) hHeld.1, cell_fars (by omega) hHeld.2⟩ (fun hHeld => ?_)
    clear hK K'
    (try simp only [Act.put, List.setIfInBounds_toArray, List.set_cons_zero, List.set_cons_succ])
    refine pop_one 9 (by decide +kernel) rfl (fun K' hK => ?_)
    go_simp
    refine hK.out _ _ ⟨cell_fars (by omega) hHeld.1, cell_fars (by omega) hHeld.2⟩ (fun hHeld => ?_)
    clear hK K'
    (try simp only [Act.put, List.setIfInBounds_toArray, List.set_cons_zero, List.set_cons_succ])
    refine wpAnyH_done (by kernel_rfl) ?_ _
    clear hHeld
    go_wp2_with fail
    refine bodyPost_ret (v := .tuple #[sval A4 B4 c4 d4 ⟨v, h⟩, sval A8 B8 c8 d8 ⟨v8, h8⟩]) (by simp [results, Tryd.results23, go_sem, j0, j1, i0, i1]) rfl ⟨A4, B4, c4, d4, v, h, A8, B8, c8, d8, v8, h8, rfl, ?_, ?_, ⟨by omega, by omega⟩, ⟨by omega, by omega⟩, ?_⟩
    · exact ((((oA9.far (by show w.heap.size < _; omega) _).far (by show w.heap.size < _; omega) _).far (by show w.heap.size + 1 < _; omega) _).far (by show w.heap.size + 1 < _; omega) _).lo (by omega)
    · exact ((((o8.far (by show w.heap.size < _; omega) _).far (by show w.heap.size < _; omega) _).far (by show w.heap.size + 1 < _; omega) _).far (by show w.heap.size + 1 < _; omega) _).lo (by omega)
    · exact (((G9.setCell (Nat.le_refl _) _).setCell (Nat.le_refl _) _).setCell (by show w.heap.size ≤ w.heap.size + 1; omega) _).setCell (by show w.heap.size ≤ w.heap.size + 1; omega) _

end Go.Proofs.YtifdefkkofngoaaDoor
