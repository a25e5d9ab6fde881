/- The draws of a state and an assertion, and of a state and an atom. No conditions. -/
import Derived.Test.YtlcijjbeikoppaaDrawM
namespace Go.Proofs.Ytlcijjbeikoppaa
open Go.RowKit
set_option linter.unusedVariables false

theorem OSt.bd {w : World} {lo : Nat} {A B : Option Addr} {c d : Nat} {s : Pl.St} (k : OSt w lo A B c d s) : (∀ j, (Value.slice A s.v.length c).ownBlock = some j → lo ≤ j ∧ j < w.heap.size) ∧ ∀ j, (Value.slice B s.h.length d).ownBlock = some j → lo ≤ j ∧ j < w.heap.size := ⟨k.bdv, k.bdh⟩


set_option maxRecDepth 100000 in
set_option maxHeartbeats 3200000 in
theorem l4Args_c (g q : Nat) (w : World) (hr : RD w g q) (hq : q ≤ 600000) :
    Calls Try.prog 61 #[.pointer (some ⟨g, 0, none⟩)] w fun e w' => (∃ A B c d v h A9 B9 c9 d9 a, e = .returned (.tuple #[sval A B c d ⟨v, h⟩, asval A9 B9 c9 d9 a]) ∧ OSt w' w.heap.size A B c d ⟨v, h⟩ ∧ OAs w' w.heap.size A9 B9 c9 d9 a ∧ (v.length ≤ 9 ∧ h.length ≤ 9) ∧ (a.f.length ≤ 20 ∧ a.a.length ≤ 20)) ∧ w.grownBy w' (some g) := by
  have hlt := hr.lt
  have y2 := (Box2.new w 43 (.slice none 0 0) (.slice none 0 0)).grow (show Grow _ ((w.alloc (.cells #[.slice none 0 0, .slice none 0 0] 43)).alloc (.cells #[.slice none 0 0, .slice none 0 0] 30)) from Grow.alloc (Grow.refl _) _)
  have y3 := Box2.new (w.alloc (.cells #[.slice none 0 0, .slice none 0 0] 43)) 30 (.slice none 0 0) (.slice none 0 0)
  have G0 : Grow w ((w.alloc (.cells #[.slice none 0 0, .slice none 0 0] 43)).alloc (.cells #[.slice none 0 0, .slice none 0 0] 30)) := (by repeat (first | exact Grow.refl _ | assumption | refine Grow.alloc ?_ _ | refine Grow.drew ?_ | refine Grow.drewN ?_ _ | refine Grow.trans ?_ (by assumption) | refine Grow.below ?_ (by assumption) (by first | exact Nat.le_refl _ | omega)))
  have hz0 : ((w.alloc (.cells #[.slice none 0 0, .slice none 0 0] 43)).alloc (.cells #[.slice none 0 0, .slice none 0 0] 30)).heap.size = w.heap.size + 2 := by simp
  simp only [World.size_alloc] at y3
  go_enter Try.func61, Try.ntmps61
  go_wp2_with fail
  generalize (w.alloc (.cells #[.slice none 0 0, .slice none 0 0] 43)).alloc (.cells #[.slice none 0 0, .slice none 0 0] 30) = w2 at *
  refine (l3Draw_c g q _ (hr.grow G0) (by omega)).mono ?_
  rintro e w3 ⟨⟨A4, B4, c4, d4, s, rfl, o4, hsv, hf2, ha4⟩, hr3, b3⟩
  rw [hz0] at o4
  have B3 : w.grownBy w3 (some g) := by_trans (G0.by_ _) b3
  have hs3 := b3.size
  have q3 : Grow w3 (w3.alloc (.cells #[.slice A4 s.f.length c4, .slice B4 s.a.length d4] 30)) := (by repeat (first | exact Grow.refl _ | assumption | refine Grow.alloc ?_ _ | refine Grow.drew ?_ | refine Grow.drewN ?_ _ | refine Grow.trans ?_ (by assumption) | refine Grow.below ?_ (by assumption) (by first | exact Nat.le_refl _ | omega)))
  have y4 := Box2.new w3 30 (.slice A4 s.f.length c4) (.slice B4 s.a.length d4)
  replace y2 := (y2.kept b3 (by intro e; injection e with e; omega)).grow q3
  replace y3 := (y3.kept b3 (by intro e; injection e with e; omega)).grow q3
  have oA := o4.grow q3
  have HSV := Lib.hid hsv
  have hbd0 := o4.bdv
  have hbd1 := o4.bdh
  replace hr3 := hr3.grow q3
  replace B3 := by_grow B3 q3
  have hz4 := y4.lt
  clear b3 o4 q3 hsv hr G0
  obtain ⟨k0, k1, _, _⟩ := y4.facts
  go_wp2_with fail
  clear k0 k1
  generalize w3.alloc (.cells #[.slice A4 s.f.length c4, .slice B4 s.a.length d4] 30) = w4 at *
  refine (l4Build_c g (q + 30) (w.heap.size + 2) A4 B4 c4 d4 s _ hr3 (by omega) oA (by omega) (by omega) HSV.out).mono ?_
  rintro e w5 ⟨⟨A5, B5, c5, d5, v, h, rfl, o5, hv8, hh8⟩, hr5, b5⟩
  have q5 : Grow w5 (w5.alloc (.cells #[.slice A5 v.length c5, .slice B5 h.length d5] 43)) := (by repeat (first | exact Grow.refl _ | assumption | refine Grow.alloc ?_ _ | refine Grow.drew ?_ | refine Grow.drewN ?_ _ | refine Grow.trans ?_ (by assumption) | refine Grow.below ?_ (by assumption) (by first | exact Nat.le_refl _ | omega)))
  have y5 := Box2.new w5 43 (.slice A5 v.length c5) (.slice B5 h.length d5)
  have hs5 := b5.size
  replace y2 := (y2.kept b5 (by intro e; injection e with e; omega)).grow q5
  replace y3 := (y3.kept b5 (by intro e; injection e with e; omega)).grow q5
  replace y4 := (y4.kept b5 (by intro e; injection e with e; omega)).grow q5
  replace oA := (oA.kept b5 (fun j hj => by injection hj with hj; omega)).grow q5
  have B5' := by_grow (by_trans B3 b5) q5
  have hr5' := hr5.grow q5
  have o5' := o5.grow q5
  have hvl : v.length ≤ 8 := by omega
  have hhl : h.length ≤ 8 := by omega
  have hz5 := y5.lt
  have hbv : ∀ j, (Value.slice A4 s.f.length c4).ownBlock = some j → j < w5.heap.size := fun j hj => by have := (hbd0 j hj).2; omega
  have hbh : ∀ j, (Value.slice B4 s.a.length d4).ownBlock = some j → j < w5.heap.size := fun j hj => by have := (hbd1 j hj).2; omega
  clear b5 q5 hr3 B3 hr5 o5 hv8 hh8 hbd0 hbd1
  go_wp2_with fail
  generalize w5.alloc (.cells #[.slice A5 v.length c5, .slice B5 h.length d5] 43) = w6 at *
  refine (pick_c g (q + 30 + 40) 8 _ hr5' (by omega) (by omega) (by omega)).mono ?_
  rintro e wp ⟨⟨p, hp, rfl⟩, hrp, bp⟩
  replace y2 := y2.kept bp (by intro e; injection e with e; omega)
  replace y3 := y3.kept bp (by intro e; injection e with e; omega)
  replace y4 := y4.kept bp (by intro e; injection e with e; omega)
  replace y5 := y5.kept bp (by intro e; injection e with e; omega)
  replace oA := oA.kept bp (fun j hj => by injection hj with hj; omega)
  have op := o5'.kept bp (fun j hj => by injection hj with hj; omega)
  have Bp := by_trans B5' bp
  have hsp := bp.size
  clear bp hr5' o5' B5'
  by_cases hp0 : p = 0
  · have b0 : ((p : Int) == 0) = true := by simp [hp0]
    clear hp0 hp
    have bnd := op.bd
    go_wp2_with fail
    refine (l2Draw_c g (q + 30 + 40 + 1) _ hrp (by omega)).mono ?_
    rintro e wl ⟨⟨A5, B5, c5, d5, v, h, rfl, o6, hv6, hh6⟩, hrl, bl⟩
    have hvl : v.length ≤ 8 := by omega
    have hhl : h.length ≤ 8 := by omega
    clear hv6 hh6
    replace y2 := y2.kept bl (by intro e; injection e with e; omega)
    replace y3 := y3.kept bl (by intro e; injection e with e; omega)
    replace y4 := y4.kept bl (by intro e; injection e with e; omega)
    replace y5 := y5.kept bl (by intro e; injection e with e; omega)
    replace oA := oA.kept bl (fun j hj => by injection hj with hj; omega)
    have Bl := by_trans Bp bl
    have hsl := bl.size
    obtain ⟨p0, p1, p2, p3⟩ := y5.facts
    clear bl hrp op Bp bnd
    go_wp2_with fail
    have y6 := (y5.set0 (.slice A5 v.length c5)).set1 (.slice B5 h.length d5)
    have W2 : wl.heap.size = ((wl.setCell ⟨w5.heap.size, 0, none⟩ (.slice A5 v.length c5)).setCell ⟨w5.heap.size, 1, none⟩ (.slice B5 h.length d5)).heap.size := by simp [World.setCell]
    replace y2 := (y2.far (p := ⟨w5.heap.size, 0, none⟩) (by show w.heap.size ≠ w5.heap.size; omega) (.slice A5 v.length c5)).far (p := ⟨w5.heap.size, 1, none⟩) (by show w.heap.size ≠ w5.heap.size; omega) (.slice B5 h.length d5)
    replace y3 := (y3.far (p := ⟨w5.heap.size, 0, none⟩) (by show w.heap.size + 1 ≠ w5.heap.size; omega) (.slice A5 v.length c5)).far (p := ⟨w5.heap.size, 1, none⟩) (by show w.heap.size + 1 ≠ w5.heap.size; omega) (.slice B5 h.length d5)
    replace y4 := (y4.far (p := ⟨w5.heap.size, 0, none⟩) (by show w3.heap.size ≠ w5.heap.size; omega) (.slice A5 v.length c5)).far (p := ⟨w5.heap.size, 1, none⟩) (by show w3.heap.size ≠ w5.heap.size; omega) (.slice B5 h.length d5)
    have o6' := (o6.far (p := ⟨w5.heap.size, 0, none⟩) (by show w5.heap.size < wp.heap.size; omega) (.slice A5 v.length c5)).far (p := ⟨w5.heap.size, 1, none⟩) (by show w5.heap.size < wp.heap.size; omega) (.slice B5 h.length d5)
    have hrl' := rd_far (rd_far hrl (p := ⟨w5.heap.size, 0, none⟩) (by show g < w5.heap.size; omega) (.slice A5 v.length c5)) (p := ⟨w5.heap.size, 1, none⟩) (by show g < w5.heap.size; omega) (.slice B5 h.length d5)
    have Bq := by_set1 (by_set1 Bl (p := ⟨w5.heap.size, 0, none⟩) (by show w.heap.size ≤ w5.heap.size; omega) (.slice A5 v.length c5)) (p := ⟨w5.heap.size, 1, none⟩) (by show w.heap.size ≤ w5.heap.size; omega) (.slice B5 h.length d5)
    have oA' : OAs ((wl.setCell ⟨w5.heap.size, 0, none⟩ (.slice A5 v.length c5)).setCell ⟨w5.heap.size, 1, none⟩ (.slice B5 h.length d5)) (w.heap.size + 2) A4 B4 c4 d4 s := by
      have f : ∀ (W : World) (p : Addr) (u : Value), p.block = w5.heap.size → OAs W (w.heap.size + 2) A4 B4 c4 d4 s → OAs (W.setCell p u) (w.heap.size + 2) A4 B4 c4 d4 s := fun W p u hp o => ⟨own_far o.v (fun j hj e => by have := hbv j hj; omega) u, own_far o.h (fun j hj e => by have := hbh j hj; omega) u, o.ap⟩
      exact f _ _ _ rfl (f _ _ _ rfl oA)
    clear oA y5 o6 hrl Bl
    generalize (wl.setCell ⟨w5.heap.size, 0, none⟩ (.slice A5 v.length c5)).setCell ⟨w5.heap.size, 1, none⟩ (.slice B5 h.length d5) = wm at *
    have y5 := y6
    have oA := oA'
    have hrp := hrl'
    have op := o6'
    have Bp := Bq
    clear y6 oA' hrl' o6' Bq p0 p1 p2 p3
    obtain ⟨k0, k1, _, _⟩ := y5.facts
    obtain ⟨m0, m1, _, _⟩ := y4.facts
    obtain ⟨j0, j1, e0, e1⟩ := y2.facts
    obtain ⟨i0, i1, f0, f1⟩ := y3.facts
    have hb4 : ¬ w3.heap.size = g := by omega
    have hb5 : ¬ w5.heap.size = g := by omega
    try go_wp2_with fail
    refine wp_region_held_drew (S := (fun W => W.cell? ⟨w5.heap.size, 0, none⟩ = some (.slice A5 v.length c5) ∧ W.cell? ⟨w5.heap.size, 1, none⟩ = some (.slice B5 h.length d5) ∧ W.cell? ⟨w3.heap.size, 0, none⟩ = some (.slice A4 s.f.length c4) ∧ W.cell? ⟨w3.heap.size, 1, none⟩ = some (.slice B4 s.a.length d4))) (by kernel_rfl) ?_ (fun hHeld => ?_)
    · exact ⟨k0, k1, m0, m1⟩
    refine pop_take 0 (v := ?_) rfl (by kernel_rfl) (by kernel_rfl) (by kernel_rfl) (fun _ _ _ h => h) (by rfl) (by assumption) ?_ ?_
    rotate_left 1
    · (intro W hSw; (try dsimp only at hSw); go_simp; (try with_reducible rfl))
    (try simp only [Act.put, List.setIfInBounds_toArray, List.set_cons_zero, List.set_cons_succ])
    refine pop_take 1 (v := ?_) rfl (by kernel_rfl) (by kernel_rfl) (by kernel_rfl) (fun _ _ _ h => h) (by rfl) (by assumption) ?_ ?_
    rotate_left 1
    · (intro W hSw; (try dsimp only at hSw); go_simp; (try with_reducible rfl))
    (try simp only [Act.put, List.setIfInBounds_toArray, List.set_cons_zero, List.set_cons_succ])
    refine pop_take 3 (v := ?_) rfl (by kernel_rfl) (by kernel_rfl) (by kernel_rfl) (fun _ _ _ h => h) (by rfl) (by assumption) ?_ ?_
    rotate_left 1
    · (intro W hSw; (try dsimp only at hSw); go_simp; (try with_reducible rfl))
    (try simp only [Act.put, List.setIfInBounds_toArray, List.set_cons_zero, List.set_cons_succ])
    refine pop_take 4 (v := ?_) rfl (by kernel_rfl) (by kernel_rfl) (by kernel_rfl) (fun _ _ _ h => h) (by rfl) (by assumption) ?_ ?_
    rotate_left 1
    · (intro W hSw; (try dsimp only at hSw); go_simp; (try with_reducible rfl))
    (try simp only [Act.put, List.setIfInBounds_toArray, List.set_cons_zero, List.set_cons_succ])
    have qd : Grow wm wm.drew := (by repeat (first | exact Grow.refl _ | assumption | refine Grow.alloc ?_ _ | refine Grow.drew ?_ | refine Grow.drewN ?_ _ | refine Grow.trans ?_ (by assumption) | refine Grow.below ?_ (by assumption) (by first | exact Nat.le_refl _ | omega)))
    have S5 := (op.st.grow qd)
    refine pop_one 2 (by kernel_rfl) rfl (fun K hK => ?_)
    go_simp
    (go_at_call 51; refine (l2Mutate_c g (q + 30 + 40 + 1 + 30) A5 B5 c5 d5 ⟨v, h⟩ _ (hrp.grow qd) (by omega) S5 (by show v.length ≤ _; omega) (by show h.length ≤ _; omega)).mono ?_; rintro e w7 ⟨⟨A7, B7, c7, d7, v7, h7, rfl, o7, hv7, hh7⟩, hr7, b7⟩)
    go_wp2_with fail
    refine hK.out _ _ ?_ (fun hHeld => ?_)
    · exact ⟨b7.cell hHeld.1 (fun e => hb5 (by injection e)), b7.cell hHeld.2.1 (fun e => hb5 (by injection e)), b7.cell hHeld.2.2.1 (fun e => hb4 (by injection e)), b7.cell hHeld.2.2.2 (fun e => hb4 (by injection e))⟩
    clear hK K
    (try simp only [Act.put, List.setIfInBounds_toArray, List.set_cons_zero, List.set_cons_succ])
    have b7' := by_trans (qd.by_ (some g)) b7
    have oA7 := oA.kept b7' (fun j hj => by injection hj with hj; omega)
    refine pop_one 5 (by kernel_rfl) rfl (fun K hK => ?_)
    go_simp
    (go_at_call 43; refine (l3Mutate_c g ((q + 30 + 40 + 1 + 30) + 2) A4 B4 c4 d4 s _ hr7 (by omega) oA7.st (by omega) (by omega)).mono ?_; rintro e w8 ⟨⟨A8, B8, c8, d8, s8, rfl, o8, hv8, hh8⟩, hr8, b8⟩)
    go_wp2_with fail
    refine hK.out _ _ ?_ (fun hHeld => ?_)
    · exact ⟨b8.cell hHeld.1 (fun e => hb5 (by injection e)), b8.cell hHeld.2.1 (fun e => hb5 (by injection e)), b8.cell hHeld.2.2.1 (fun e => hb4 (by injection e)), b8.cell hHeld.2.2.2 (fun e => hb4 (by injection e))⟩
    clear hK K
    (try simp only [Act.put, List.setIfInBounds_toArray, List.set_cons_zero, List.set_cons_succ])
    have b9 := by_trans b7' b8
    have z2 := y2.kept b9 (by intro e; injection e with e; omega)
    have z3 := y3.kept b9 (by intro e; injection e with e; omega)
    have hdz : wm.drew.heap.size = wm.heap.size := rfl
    have o9 := o7.kept b8 (fun j hj => by injection hj with hj; omega)
    have hs9 := b9.size
    have hs7 := b7'.size
    obtain ⟨j0, j1, e0, e1⟩ := z2.facts
    obtain ⟨i0, i1, f0, f1⟩ := z3.facts
    refine pop_one 6 (by decide +kernel) rfl (fun K' hK => ?_)
    go_simp
    refine hK.out _ _ ⟨cell_far2 (by omega) hHeld.1, cell_far2 (by omega) hHeld.2.1, cell_far2 (by omega) hHeld.2.2.1, cell_far2 (by omega) hHeld.2.2.2⟩ (fun hHeld => ?_)
    clear hK K'
    (try simp only [Act.put, List.setIfInBounds_toArray, List.set_cons_zero, List.set_cons_succ])
    refine pop_one 7 (by decide +kernel) rfl (fun K' hK => ?_)
    go_simp
    refine hK.out _ _ ⟨cell_far2 (by omega) hHeld.1, cell_far2 (by omega) hHeld.2.1, cell_far2 (by omega) hHeld.2.2.1, cell_far2 (by omega) hHeld.2.2.2⟩ (fun hHeld => ?_)
    clear hK K'
    (try simp only [Act.put, List.setIfInBounds_toArray, List.set_cons_zero, List.set_cons_succ])
    refine wpAnyH_done (by kernel_rfl) ?_ _
    clear hHeld
    go_wp2_with fail
    refine bodyPost_ret (v := .tuple #[sval A7 B7 c7 d7 ⟨v7, h7⟩, asval A8 B8 c8 d8 s8]) (by simp [results, Try.results61, go_sem, j0, j1, i0, i1]) rfl ⟨⟨A7, B7, c7, d7, v7, h7, A8, B8, c8, d8, s8, rfl, ?_, ?_, ?_, ?_⟩, ?_⟩
    · exact ((((o9.far (by show w.heap.size < _; omega) _).far (by show w.heap.size < _; omega) _).far (by show w.heap.size + 1 < _; omega) _).far (by show w.heap.size + 1 < _; omega) _).lo (by omega)
    · exact ((((o8.far (by show w.heap.size < _; omega) _).far (by show w.heap.size < _; omega) _).far (by show w.heap.size + 1 < _; omega) _).far (by show w.heap.size + 1 < _; omega) _).lo (by omega)
    · exact ⟨by omega, by omega⟩
    · exact ⟨by omega, by omega⟩
    · exact by_set1 (by_set1 (by_set1 (by_set1 (by_trans Bp b9) (Nat.le_refl _) _) (Nat.le_refl _) _) (by show w.heap.size ≤ w.heap.size + 1; omega) _) (by show w.heap.size ≤ w.heap.size + 1; omega) _
  · have b0 : ((p : Int) == 0) = false := by simp; omega
    clear hp0 hp
    obtain ⟨k0, k1, _, _⟩ := y5.facts
    obtain ⟨m0, m1, _, _⟩ := y4.facts
    obtain ⟨j0, j1, e0, e1⟩ := y2.facts
    obtain ⟨i0, i1, f0, f1⟩ := y3.facts
    have hb4 : ¬ w3.heap.size = g := by omega
    have hb5 : ¬ w5.heap.size = g := by omega
    try go_wp2_with fail
    refine wp_region_held_drew (S := (fun W => W.cell? ⟨w5.heap.size, 0, none⟩ = some (.slice A5 v.length c5) ∧ W.cell? ⟨w5.heap.size, 1, none⟩ = some (.slice B5 h.length d5) ∧ W.cell? ⟨w3.heap.size, 0, none⟩ = some (.slice A4 s.f.length c4) ∧ W.cell? ⟨w3.heap.size, 1, none⟩ = some (.slice B4 s.a.length d4))) (by kernel_rfl) ?_ (fun hHeld => ?_)
    · exact ⟨k0, k1, m0, m1⟩
    refine pop_take 0 (v := ?_) rfl (by kernel_rfl) (by kernel_rfl) (by kernel_rfl) (fun _ _ _ h => h) (by rfl) (by assumption) ?_ ?_
    rotate_left 1
    · (intro W hSw; (try dsimp only at hSw); go_simp; (try with_reducible rfl))
    (try simp only [Act.put, List.setIfInBounds_toArray, List.set_cons_zero, List.set_cons_succ])
    refine pop_take 1 (v := ?_) rfl (by kernel_rfl) (by kernel_rfl) (by kernel_rfl) (fun _ _ _ h => h) (by rfl) (by assumption) ?_ ?_
    rotate_left 1
    · (intro W hSw; (try dsimp only at hSw); go_simp; (try with_reducible rfl))
    (try simp only [Act.put, List.setIfInBounds_toArray, List.set_cons_zero, List.set_cons_succ])
    refine pop_take 3 (v := ?_) rfl (by kernel_rfl) (by kernel_rfl) (by kernel_rfl) (fun _ _ _ h => h) (by rfl) (by assumption) ?_ ?_
    rotate_left 1
    · (intro W hSw; (try dsimp only at hSw); go_simp; (try with_reducible rfl))
    (try simp only [Act.put, List.setIfInBounds_toArray, List.set_cons_zero, List.set_cons_succ])
    refine pop_take 4 (v := ?_) rfl (by kernel_rfl) (by kernel_rfl) (by kernel_rfl) (fun _ _ _ h => h) (by rfl) (by assumption) ?_ ?_
    rotate_left 1
    · (intro W hSw; (try dsimp only at hSw); go_simp; (try with_reducible rfl))
    (try simp only [Act.put, List.setIfInBounds_toArray, List.set_cons_zero, List.set_cons_succ])
    have qd : Grow wp wp.drew := (by repeat (first | exact Grow.refl _ | assumption | refine Grow.alloc ?_ _ | refine Grow.drew ?_ | refine Grow.drewN ?_ _ | refine Grow.trans ?_ (by assumption) | refine Grow.below ?_ (by assumption) (by first | exact Nat.le_refl _ | omega)))
    have S5 := (op.st.grow qd)
    refine pop_one 2 (by kernel_rfl) rfl (fun K hK => ?_)
    go_simp
    (go_at_call 51; refine (l2Mutate_c g (q + 30 + 40 + 1) A5 B5 c5 d5 ⟨v, h⟩ _ (hrp.grow qd) (by omega) S5 (by show v.length ≤ _; omega) (by show h.length ≤ _; omega)).mono ?_; rintro e w7 ⟨⟨A7, B7, c7, d7, v7, h7, rfl, o7, hv7, hh7⟩, hr7, b7⟩)
    go_wp2_with fail
    refine hK.out _ _ ?_ (fun hHeld => ?_)
    · exact ⟨b7.cell hHeld.1 (fun e => hb5 (by injection e)), b7.cell hHeld.2.1 (fun e => hb5 (by injection e)), b7.cell hHeld.2.2.1 (fun e => hb4 (by injection e)), b7.cell hHeld.2.2.2 (fun e => hb4 (by injection e))⟩
    clear hK K
    (try simp only [Act.put, List.setIfInBounds_toArray, List.set_cons_zero, List.set_cons_succ])
    have b7' := by_trans (qd.by_ (some g)) b7
    have oA7 := oA.kept b7' (fun j hj => by injection hj with hj; omega)
    refine pop_one 5 (by kernel_rfl) rfl (fun K hK => ?_)
    go_simp
    (go_at_call 43; refine (l3Mutate_c g ((q + 30 + 40 + 1) + 2) A4 B4 c4 d4 s _ hr7 (by omega) oA7.st (by omega) (by omega)).mono ?_; rintro e w8 ⟨⟨A8, B8, c8, d8, s8, rfl, o8, hv8, hh8⟩, hr8, b8⟩)
    go_wp2_with fail
    refine hK.out _ _ ?_ (fun hHeld => ?_)
    · exact ⟨b8.cell hHeld.1 (fun e => hb5 (by injection e)), b8.cell hHeld.2.1 (fun e => hb5 (by injection e)), b8.cell hHeld.2.2.1 (fun e => hb4 (by injection e)), b8.cell hHeld.2.2.2 (fun e => hb4 (by injection e))⟩
    clear hK K
    (try simp only [Act.put, List.setIfInBounds_toArray, List.set_cons_zero, List.set_cons_succ])
    have b9 := by_trans b7' b8
    have z2 := y2.kept b9 (by intro e; injection e with e; omega)
    have z3 := y3.kept b9 (by intro e; injection e with e; omega)
    have hdz : wp.drew.heap.size = wp.heap.size := rfl
    have o9 := o7.kept b8 (fun j hj => by injection hj with hj; omega)
    have hs9 := b9.size
    have hs7 := b7'.size
    obtain ⟨j0, j1, e0, e1⟩ := z2.facts
    obtain ⟨i0, i1, f0, f1⟩ := z3.facts
    refine pop_one 6 (by decide +kernel) rfl (fun K' hK => ?_)
    go_simp
    refine hK.out _ _ ⟨cell_far2 (by omega) hHeld.1, cell_far2 (by omega) hHeld.2.1, cell_far2 (by omega) hHeld.2.2.1, cell_far2 (by omega) hHeld.2.2.2⟩ (fun hHeld => ?_)
    clear hK K'
    (try simp only [Act.put, List.setIfInBounds_toArray, List.set_cons_zero, List.set_cons_succ])
    refine pop_one 7 (by decide +kernel) rfl (fun K' hK => ?_)
    go_simp
    refine hK.out _ _ ⟨cell_far2 (by omega) hHeld.1, cell_far2 (by omega) hHeld.2.1, cell_far2 (by omega) hHeld.2.2.1, cell_far2 (by omega) hHeld.2.2.2⟩ (fun hHeld => ?_)
    clear hK K'
    (try simp only [Act.put, List.setIfInBounds_toArray, List.set_cons_zero, List.set_cons_succ])
    refine wpAnyH_done (by kernel_rfl) ?_ _
    clear hHeld
    go_wp2_with fail
    refine bodyPost_ret (v := .tuple #[sval A7 B7 c7 d7 ⟨v7, h7⟩, asval A8 B8 c8 d8 s8]) (by simp [results, Try.results61, go_sem, j0, j1, i0, i1]) rfl ⟨⟨A7, B7, c7, d7, v7, h7, A8, B8, c8, d8, s8, rfl, ?_, ?_, ?_, ?_⟩, ?_⟩
    · exact ((((o9.far (by show w.heap.size < _; omega) _).far (by show w.heap.size < _; omega) _).far (by show w.heap.size + 1 < _; omega) _).far (by show w.heap.size + 1 < _; omega) _).lo (by omega)
    · exact ((((o8.far (by show w.heap.size < _; omega) _).far (by show w.heap.size < _; omega) _).far (by show w.heap.size + 1 < _; omega) _).far (by show w.heap.size + 1 < _; omega) _).lo (by omega)
    · exact ⟨by omega, by omega⟩
    · exact ⟨by omega, by omega⟩
    · exact by_set1 (by_set1 (by_set1 (by_set1 (by_trans Bp b9) (Nat.le_refl _) _) (Nat.le_refl _) _) (by show w.heap.size ≤ w.heap.size + 1; omega) _) (by show w.heap.size ≤ w.heap.size + 1; omega) _

/-- A state and an assertion were drawn. -/
def DrawnH (w : World) (e : Ending) (w' : World) : Prop := ∃ A B c d v h A9 B9 c9 d9 a, e = .returned (.tuple #[sval A B c d ⟨v, h⟩, asval A9 B9 c9 d9 a]) ∧ OSt w' w.heap.size A B c d ⟨v, h⟩ ∧ OAs w' w.heap.size A9 B9 c9 d9 a ∧ (v.length ≤ 9 ∧ h.length ≤ 9) ∧ (a.f.length ≤ 20 ∧ a.a.length ≤ 20) ∧ Grow w w'

set_option maxRecDepth 100000 in
set_option maxHeartbeats 1600000 in
theorem DrawHolds_c (A : Option Addr) (n c : Nat) (w : World) (hb : Bytes w A n) (hn : n ≤ 9223372036854775807) (hc : n ≤ c) :
    Calls Try.prog 22 #[.slice A n c] w (DrawnH w) := by
  have y2 := (Box2.new w 43 (.slice none 0 0) (.slice none 0 0)).grow (show Grow _ ((w.alloc (.cells #[.slice none 0 0, .slice none 0 0] 43)).alloc (.cells #[.slice none 0 0, .slice none 0 0] 30)) from Grow.alloc (Grow.refl _) _)
  have y3 := Box2.new (w.alloc (.cells #[.slice none 0 0, .slice none 0 0] 43)) 30 (.slice none 0 0) (.slice none 0 0)
  have G0 : Grow w ((w.alloc (.cells #[.slice none 0 0, .slice none 0 0] 43)).alloc (.cells #[.slice none 0 0, .slice none 0 0] 30)) := (by repeat (first | exact Grow.refl _ | assumption | refine Grow.alloc ?_ _ | refine Grow.drew ?_ | refine Grow.drewN ?_ _ | refine Grow.trans ?_ (by assumption) | refine Grow.below ?_ (by assumption) (by first | exact Nat.le_refl _ | omega)))
  have hz0 : ((w.alloc (.cells #[.slice none 0 0, .slice none 0 0] 43)).alloc (.cells #[.slice none 0 0, .slice none 0 0] 30)).heap.size = w.heap.size + 2 := by simp
  simp only [World.size_alloc] at y3
  go_enter Try.func22, Try.ntmps22
  go_wp2_with fail
  generalize (w.alloc (.cells #[.slice none 0 0, .slice none 0 0] 43)).alloc (.cells #[.slice none 0 0, .slice none 0 0] 30) = w2 at *
  refine (l18Open_c A n c _ (hb.grow G0) hn hc).mono ?_
  rintro e w3 ⟨g, rfl, hr3, hgl, g3⟩
  replace y2 := y2.grow g3
  replace y3 := y3.grow g3
  replace G0 := G0.trans g3
  have hs3 := g3.le
  clear g3 hb
  go_wp2_with fail
  refine (l4Args_c g 0 _ hr3 (by omega)).mono ?_
  rintro e w4 ⟨⟨A4, B4, c4, d4, v, h, A9, B9, c9, d9, a, rfl, o4, o9, ⟨hv, hh⟩, ⟨hf, ha⟩⟩, b4⟩
  replace y2 := y2.kept b4 (by intro e; injection e with e; omega)
  replace y3 := y3.kept b4 (by intro e; injection e with e; omega)
  have G4 : Grow w w4 := G0.grown b4 (fun k hk => by injection hk with hk; omega)
  clear b4 hr3 G0
  obtain ⟨j0, j1, e0, e1⟩ := y2.facts
  obtain ⟨i0, i1, f0, f1⟩ := y3.facts
  go_wp2_with fail
  refine bodyPost_ret (v := .tuple #[sval A4 B4 c4 d4 ⟨v, h⟩, asval A9 B9 c9 d9 a]) (by simp [results, Try.results22, go_sem, j0, j1, i0, i1]) rfl ⟨A4, B4, c4, d4, v, h, A9, B9, c9, d9, a, rfl, ?_, ?_, ⟨hv, hh⟩, ⟨hf, ha⟩, ?_⟩
  · exact ((((o4.far (by show w.heap.size < _; omega) _).far (by show w.heap.size < _; omega) _).far (by show w.heap.size + 1 < _; omega) _).far (by show w.heap.size + 1 < _; omega) _).lo (by omega)
  · exact ((((o9.far (by show w.heap.size < _; omega) _).far (by show w.heap.size < _; omega) _).far (by show w.heap.size + 1 < _; omega) _).far (by show w.heap.size + 1 < _; omega) _).lo (by omega)
  · exact (((G4.setCell (Nat.le_refl _) _).setCell (Nat.le_refl _) _).setCell (by show w.heap.size ≤ w.heap.size + 1; omega) _).setCell (by show w.heap.size ≤ w.heap.size + 1; omega) _

end Go.Proofs.Ytlcijjbeikoppaa
