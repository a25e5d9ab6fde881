/- The draw of a state and an atom. No conditions. -/
import Derived.Test.YtlcijjbeikoppaaDrawN
import Derived.Deep.DeepCutAuto
namespace Go.Proofs.Ytlcijjbeikoppaa
open Go.RowKit
set_option linter.unusedVariables false

/-- A state and an atom were drawn. -/
def DrawnX (w : World) (e : Ending) (w' : World) : Prop := ∃ A B c d v h x, e = .returned (.tuple #[sval A B c d ⟨v, h⟩, xval x]) ∧ OSt w' w.heap.size A B c d ⟨v, h⟩ ∧ (v.length ≤ 9 ∧ h.length ≤ 9) ∧ Grow w w'
theorem two_atoms (w : World) (x y : Pl.Atm) (lo : Nat) (hlo : lo ≤ w.heap.size) : OAs (w.alloc (.cells #[.int .i64 x.k, .int .i64 x.a, .int .i64 x.b, .int .i64 y.k, .int .i64 y.a, .int .i64 y.b] 45)) lo none (some ⟨w.heap.size, 0, none⟩) 0 2 ⟨[], [x, y]⟩ := by
  have h := World.ownsRow_lit (e := 45) (size := 3) w #[.int .i64 x.k, .int .i64 x.a, .int .i64 x.b, .int .i64 y.k, .int .i64 y.a, .int .i64 y.b] 2 (Nat.le_refl _) (by unfold maxLen; omega) (by simp)
  refine ⟨⟨rfl, .inl ⟨rfl, rfl⟩⟩, ?_, fun k hk => by cases hk⟩
  exact own_lo (by simpa [xcells] using h) hlo

/-- What stands behind the steps of the drawn region, whatever their order: the assertion's rows; the state's box; the state. -/
def AcS (w5 : World) (x y : Pl.Atm) (bS : Nat) (W : World) : Prop := OAs W w5.heap.size none (some ⟨bS, 0, none⟩) 0 2 ⟨[], [x, y]⟩
def AcB (b : Nat) (W : World) : Prop := Box2 W b 43 (.slice none 0 0) (.slice none 0 0)


theorem Box3.set0 {w : World} {g E : Nat} {x y z : Value} (h : Box3 w g E x y z) (u : Value) : Box3 (w.setCell ⟨g, 0, none⟩ u) g E u y z := by
  unfold Box3 at h ⊢; simp [World.setCell, Array.getElem?_modify, h]
theorem cell_far3 {w : World} {g i k : Nat} {x y z u : Value} (hne : g ≠ i) (h : w.cell? ⟨g, k, none⟩ = some u) : (((w.setCell ⟨i, 0, none⟩ x).setCell ⟨i, 1, none⟩ y).setCell ⟨i, 2, none⟩ z).cell? ⟨g, k, none⟩ = some u :=
  (World.cell?_setCell_other _ _ _ _ (fun e => hne (by injection e with e1 _ _; exact e1.symm))).trans (cell_far2 hne h)

set_option maxRecDepth 100000 in
set_option maxHeartbeats 3200000 in
theorem DrawAtomCells_c (A : Option Addr) (n c : Nat) (w : World) (hb : Bytes w A n) (hn : n ≤ 9223372036854775807) (hc : n ≤ c) :
    Calls Try.prog 16 #[.slice A n c] w (DrawnX w) := by
  have y2 := (Box2.new w 43 (.slice none 0 0) (.slice none 0 0)).grow (show Grow _ ((w.alloc (.cells #[.slice none 0 0, .slice none 0 0] 43)).alloc (.cells #[.int .i64 0, .int .i64 0, .int .i64 0] 45)) from Grow.alloc (Grow.refl _) _)
  have y3 := Box3.new (w.alloc (.cells #[.slice none 0 0, .slice none 0 0] 43)) 45 (.int .i64 0) (.int .i64 0) (.int .i64 0)
  have G0 : Grow w ((w.alloc (.cells #[.slice none 0 0, .slice none 0 0] 43)).alloc (.cells #[.int .i64 0, .int .i64 0, .int .i64 0] 45)) := (by repeat (first | exact Grow.refl _ | assumption | refine Grow.alloc ?_ _ | refine Grow.drew ?_ | refine Grow.drewN ?_ _ | refine Grow.trans ?_ (by assumption) | refine Grow.below ?_ (by assumption) (by first | exact Nat.le_refl _ | omega)))
  have hz0 : ((w.alloc (.cells #[.slice none 0 0, .slice none 0 0] 43)).alloc (.cells #[.int .i64 0, .int .i64 0, .int .i64 0] 45)).heap.size = w.heap.size + 2 := by simp
  simp only [World.size_alloc] at y3
  go_enter Try.func16, Try.ntmps16
  go_wp2_with fail
  generalize (w.alloc (.cells #[.slice none 0 0, .slice none 0 0] 43)).alloc (.cells #[.int .i64 0, .int .i64 0, .int .i64 0] 45) = w2 at *
  refine (l18Open_c A n c _ (hb.grow G0) hn hc).mono ?_
  rintro e w3 ⟨g, rfl, hr3, hgl, g3⟩
  replace y2 := y2.grow g3
  replace y3 := y3.grow g3
  replace G0 := G0.trans g3
  have hs3 := g3.le
  have hg3 := hr3.lt
  clear g3 hb
  go_wp2_with fail
  refine (l3Point_c g 0 _ hr3 (by omega)).mono ?_
  rintro e w4 ⟨⟨x, hx, rfl⟩, hr4, b4⟩
  have q4 : Grow w4 (w4.alloc (.cells #[.int .i64 x.k, .int .i64 x.a, .int .i64 x.b] 45)) := (by repeat (first | exact Grow.refl _ | assumption | refine Grow.alloc ?_ _ | refine Grow.drew ?_ | refine Grow.drewN ?_ _ | refine Grow.trans ?_ (by assumption) | refine Grow.below ?_ (by assumption) (by first | exact Nat.le_refl _ | omega)))
  have y5 := Box3.new w4 45 (.int .i64 x.k) (.int .i64 x.a) (.int .i64 x.b)
  replace y2 := (y2.kept b4 (by intro e; injection e with e; omega)).grow q4
  replace y3 := (y3.kept b4 (by intro e; injection e with e; omega)).grow q4
  have hs4 := b4.size
  replace G0 := (G0.grown b4 (fun k hk => by injection hk with hk; omega)).trans q4
  replace hr4 := hr4.grow q4
  have hz5 := y5.lt
  clear b4 hr3 q4
  go_wp2_with fail
  generalize w4.alloc (.cells #[.int .i64 x.k, .int .i64 x.a, .int .i64 x.b] 45) = w5 at *
  obtain ⟨k0, k1, k2⟩ := y5.facts
  have hne : ¬ w4.heap.size = g := by omega
  obtain ⟨q3, hq3⟩ : ∃ q3, q3 = 3 := ⟨_, rfl⟩
  obtain ⟨q4, hq4⟩ : ∃ q4, q4 = 6 := ⟨_, rfl⟩
  have hr4' : RD w5 g q3 := hr4.more (by omega)
  have hs5 : w4.heap.size < w5.heap.size := hz5
  clear hr4
  go_cut [6] (fun s1 wx => ∃ b6 A6 B6 c6 d6 v h, s1 = Value.pointer (some ⟨b6, 0, none⟩) ∧ w5.heap.size ≤ b6 ∧ Box2 wx b6 43 (.slice A6 v.length c6) (.slice B6 h.length d6) ∧ OSt wx w5.heap.size A6 B6 c6 d6 ⟨v, h⟩ ∧ v.length ≤ 8 ∧ h.length ≤ 8 ∧ RD wx g 60 ∧ w5.grownBy wx (some g))
  case first =>
    refine wp_region_held_drew (S := (fun W => W.cell? ⟨w4.heap.size, 0, none⟩ = some (.int .i64 x.k) ∧ W.cell? ⟨w4.heap.size, 1, none⟩ = some (.int .i64 x.a) ∧ W.cell? ⟨w4.heap.size, 2, none⟩ = some (.int .i64 x.b))) (by kernel_rfl) ?_ (fun hHeld => ?_)
    · exact ⟨k0, k1, k2⟩
    have hF := (Dv.start hr4').drew
    have hzd : w5.heap.size ≤ w5.drew.heap.size := Nat.le_refl _
    generalize w5.drew = W0 at *
    refine pop_take 0 (v := ?_) rfl (by kernel_rfl) (by kernel_rfl) (by kernel_rfl) (fun _ _ _ h => h) (by rfl) (by assumption) ?_ ?_
    rotate_left 1
    · (intro W hSw; (try dsimp only at hSw); go_simp; (try with_reducible rfl))
    (try simp only [Act.put, List.setIfInBounds_toArray, List.set_cons_zero, List.set_cons_succ])
    refine pop_take 1 (v := ?_) rfl (by kernel_rfl) (by kernel_rfl) (by kernel_rfl) (fun _ _ _ h => h) (by rfl) (by assumption) ?_ ?_
    rotate_left 1
    · (intro W hSw; (try dsimp only at hSw); go_simp; (try with_reducible rfl))
    (try simp only [Act.put, List.setIfInBounds_toArray, List.set_cons_zero, List.set_cons_succ])
    refine pop_take 2 (v := ?_) rfl (by kernel_rfl) (by kernel_rfl) (by kernel_rfl) (fun _ _ _ h => h) (by rfl) (by assumption) ?_ ?_
    rotate_left 1
    · (intro W hSw; (try dsimp only at hSw); go_simp; (try with_reducible rfl))
    (try simp only [Act.put, List.setIfInBounds_toArray, List.set_cons_zero, List.set_cons_succ])
    refine pop_two 3 7 (by decide +kernel) rfl rfl (fun K hK => ?_) (fun K hK => ?_)
    · have hd3 := hHeld
      go_simp
      go_at_call 48
      (with_reducible refine (l3Point_c g q3 _ hF.rd (by omega)).mono ?_)
      rintro e W3 ⟨⟨y, hy, rfl⟩, hr6, b6⟩
      go_wp2_with fail
      refine hK.out _ _ ⟨b6.cell hHeld.1 (fun e => hne (by injection e)), b6.cell hHeld.2.1 (fun e => hne (by injection e)), b6.cell hHeld.2.2 (fun e => hne (by injection e))⟩ (fun hHeld => ?_)
      clear hK K hd3
      (try simp only [Act.put, List.setIfInBounds_toArray, List.set_cons_zero, List.set_cons_succ])
      replace hF := hF.step hr6 b6
      (try replace yb := yb.kept b6 (by intro e; injection e with e; omega))
      have hsz3 := b6.size
      clear hr6 b6
      refine pop_two 4 7 (by decide +kernel) rfl rfl (fun K hK => ?_) (fun K hK => ?_)
      · have hd3 := hHeld
        go_simp
        refine hK.out _ _ ⟨(Grow.alloc (Grow.refl _) _).cell hHeld.1, (Grow.alloc (Grow.refl _) _).cell hHeld.2.1, (Grow.alloc (Grow.refl _) _).cell hHeld.2.2⟩ (fun hHeld => ?_)
        clear hK K hd3
        (try simp only [Act.put, List.setIfInBounds_toArray, List.set_cons_zero, List.set_cons_succ])
        have oS := two_atoms W3 x y w5.heap.size (by omega)
        have q9 : Grow W3 (W3.alloc (.cells #[.int .i64 x.k, .int .i64 x.a, .int .i64 x.b, .int .i64 y.k, .int .i64 y.a, .int .i64 y.b] 45)) := (by repeat (first | exact Grow.refl _ | assumption | refine Grow.alloc ?_ _ | refine Grow.drew ?_ | refine Grow.drewN ?_ _ | refine Grow.trans ?_ (by assumption) | refine Grow.below ?_ (by assumption) (by first | exact Nat.le_refl _ | omega)))
        replace hF := hF.grow q9
        (try replace yb := yb.grow q9)
        have hsz4 := q9.le
        clear q9
        generalize W3.alloc (.cells #[.int .i64 x.k, .int .i64 x.a, .int .i64 x.b, .int .i64 y.k, .int .i64 y.a, .int .i64 y.b] 45) = W4 at *
        refine pop_take 5 (v := ?_) rfl (by kernel_rfl) (by kernel_rfl) (by kernel_rfl) (fun _ _ _ h => h) (by rfl) (by assumption) ?_ ?_
        rotate_left 1
        · (intro W hSw; (try dsimp only at hSw); go_simp; (try with_reducible rfl))
        (try simp only [Act.put, List.setIfInBounds_toArray, List.set_cons_zero, List.set_cons_succ])
        refine pop_two 6 7 (by decide +kernel) rfl rfl (fun K hK => ?_) (fun K hK => ?_)
        · have hd3 := hHeld
          go_simp
          go_at_call 49
          refine (l4Build_c g q4 w5.heap.size none _ 0 2 ⟨[], [x, y]⟩ _ (hF.rd.more (by omega)) (by omega) oS (by omega) (by omega) ((Pl.asv_iff _).2 ⟨(Pl.fsv_iff _).2 ⟨by simp, by simp⟩, by simp, by simp [hx, hy]⟩)).mono ?_
          rintro e W6 ⟨⟨A6, B6, c6, d6, v, h, rfl, o6, hv8, hh8⟩, hr6, b6⟩
          go_wp2_with fail
          refine hK.out _ _ ⟨b6.cell hHeld.1 (fun e => hne (by injection e)), b6.cell hHeld.2.1 (fun e => hne (by injection e)), b6.cell hHeld.2.2 (fun e => hne (by injection e))⟩ (fun hHeld => ?_)
          clear hK K hd3
          (try simp only [Act.put, List.setIfInBounds_toArray, List.set_cons_zero, List.set_cons_succ])
          replace hF := hF.step hr6 b6
          (try replace yb := yb.kept b6 (by intro e; injection e with e; omega))
          have hsz6 := b6.size
          have hvl : v.length ≤ 8 := by omega
          have hhl : h.length ≤ 8 := by omega
          have bdv := o6.bdv
          have bdh := o6.bdh
          clear hr6 b6 hv8 hh8 oS
          refine pop_one 7 (by decide +kernel) rfl (fun K hK => ?_)
          have hd3 := hHeld
          go_simp
          refine hK.out _ _ ⟨(Grow.alloc (Grow.refl _) _).cell hHeld.1, (Grow.alloc (Grow.refl _) _).cell hHeld.2.1, (Grow.alloc (Grow.refl _) _).cell hHeld.2.2⟩ (fun hHeld => ?_)
          clear hK K hd3
          (try simp only [Act.put, List.setIfInBounds_toArray, List.set_cons_zero, List.set_cons_succ])
          have yb := Box2.new W6 43 (.slice none 0 0) (.slice none 0 0)
          have hlt7 := yb.lt
          have q9 : Grow W6 (W6.alloc (.cells #[.slice none 0 0, .slice none 0 0] 43)) := (by repeat (first | exact Grow.refl _ | assumption | refine Grow.alloc ?_ _ | refine Grow.drew ?_ | refine Grow.drewN ?_ _ | refine Grow.trans ?_ (by assumption) | refine Grow.below ?_ (by assumption) (by first | exact Nat.le_refl _ | omega)))
          replace hF := hF.grow q9
          (try replace oS := oS.grow q9)
          (try replace o6 := o6.grow q9)
          have hsz7 := q9.le
          clear q9
          generalize W6.alloc (.cells #[.slice none 0 0, .slice none 0 0] 43) = W7 at *
          generalize hbb : W6.heap.size = bb at *
          obtain ⟨p0, p1, p2, p3⟩ := yb.facts
          have offv : ∀ j, (Value.slice A6 v.length c6).ownBlock = some j → j ≠ bb := fun j hj => by have := bdv j hj; omega
          have offh : ∀ j, (Value.slice B6 h.length d6).ownBlock = some j → j ≠ bb := fun j hj => by have := bdh j hj; omega
          have hbb5 : w5.heap.size ≤ bb := by omega
          refine pop_one 8 (by decide +kernel) rfl (fun K hK => ?_)
          go_simp
          refine hK.out _ _ ⟨cell_far2 (by omega) hHeld.1, cell_far2 (by omega) hHeld.2.1, cell_far2 (by omega) hHeld.2.2⟩ (fun hHeld => ?_)
          clear hK K
          (try simp only [Act.put, List.setIfInBounds_toArray, List.set_cons_zero, List.set_cons_succ])
          refine wpAnyH_done (by kernel_rfl) ?_ _
          clear hHeld
          go_wp2_with fail
          go_meet
          case rel => exact ⟨bb, A6, B6, c6, d6, v, h, rfl, hbb5, (yb.set0 _).set1 _, OSt.lo (⟨own_far (own_far o6.v (p := ⟨bb, 0, none⟩) (fun j hj e => offv j hj e.symm) _) (p := ⟨bb, 1, none⟩) (fun j hj e => offv j hj e.symm) _, own_far (own_far o6.h (p := ⟨bb, 0, none⟩) (fun j hj e => offh j hj e.symm) _) (p := ⟨bb, 1, none⟩) (fun j hj e => offh j hj e.symm) _, o6.ap⟩) (by omega), hvl, hhl, (rd_far (rd_far hF.rd (by show g < bb; omega) _) (by show g < bb; omega) _).more (by omega), by_set1 (by_set1 hF.by_ hbb5 _) hbb5 _⟩
        · have hd3 := hHeld
          go_simp
          refine hK.out _ _ ⟨(Grow.alloc (Grow.refl _) _).cell hHeld.1, (Grow.alloc (Grow.refl _) _).cell hHeld.2.1, (Grow.alloc (Grow.refl _) _).cell hHeld.2.2⟩ (fun hHeld => ?_)
          clear hK K hd3
          (try simp only [Act.put, List.setIfInBounds_toArray, List.set_cons_zero, List.set_cons_succ])
          have yb := Box2.new W4 43 (.slice none 0 0) (.slice none 0 0)
          have hlt7 := yb.lt
          have q9 : Grow W4 (W4.alloc (.cells #[.slice none 0 0, .slice none 0 0] 43)) := (by repeat (first | exact Grow.refl _ | assumption | refine Grow.alloc ?_ _ | refine Grow.drew ?_ | refine Grow.drewN ?_ _ | refine Grow.trans ?_ (by assumption) | refine Grow.below ?_ (by assumption) (by first | exact Nat.le_refl _ | omega)))
          replace hF := hF.grow q9
          (try replace oS := oS.grow q9)
          (try replace o6 := o6.grow q9)
          have hsz7 := q9.le
          clear q9
          generalize W4.alloc (.cells #[.slice none 0 0, .slice none 0 0] 43) = W7 at *
          generalize hbb : W4.heap.size = bb at *
          refine pop_one 6 (by decide +kernel) rfl (fun K hK => ?_)
          have hd3 := hHeld
          go_simp
          go_at_call 49
          refine (l4Build_c g q4 w5.heap.size none _ 0 2 ⟨[], [x, y]⟩ _ (hF.rd.more (by omega)) (by omega) oS (by omega) (by omega) ((Pl.asv_iff _).2 ⟨(Pl.fsv_iff _).2 ⟨by simp, by simp⟩, by simp, by simp [hx, hy]⟩)).mono ?_
          rintro e W6 ⟨⟨A6, B6, c6, d6, v, h, rfl, o6, hv8, hh8⟩, hr6, b6⟩
          go_wp2_with fail
          refine hK.out _ _ ⟨b6.cell hHeld.1 (fun e => hne (by injection e)), b6.cell hHeld.2.1 (fun e => hne (by injection e)), b6.cell hHeld.2.2 (fun e => hne (by injection e))⟩ (fun hHeld => ?_)
          clear hK K hd3
          (try simp only [Act.put, List.setIfInBounds_toArray, List.set_cons_zero, List.set_cons_succ])
          replace hF := hF.step hr6 b6
          (try replace yb := yb.kept b6 (by intro e; injection e with e; omega))
          have hsz6 := b6.size
          have hvl : v.length ≤ 8 := by omega
          have hhl : h.length ≤ 8 := by omega
          have bdv := o6.bdv
          have bdh := o6.bdh
          clear hr6 b6 hv8 hh8 oS
          obtain ⟨p0, p1, p2, p3⟩ := yb.facts
          have offv : ∀ j, (Value.slice A6 v.length c6).ownBlock = some j → j ≠ bb := fun j hj => by have := bdv j hj; omega
          have offh : ∀ j, (Value.slice B6 h.length d6).ownBlock = some j → j ≠ bb := fun j hj => by have := bdh j hj; omega
          have hbb5 : w5.heap.size ≤ bb := by omega
          refine pop_one 8 (by decide +kernel) rfl (fun K hK => ?_)
          go_simp
          refine hK.out _ _ ⟨cell_far2 (by omega) hHeld.1, cell_far2 (by omega) hHeld.2.1, cell_far2 (by omega) hHeld.2.2⟩ (fun hHeld => ?_)
          clear hK K
          (try simp only [Act.put, List.setIfInBounds_toArray, List.set_cons_zero, List.set_cons_succ])
          refine wpAnyH_done (by kernel_rfl) ?_ _
          clear hHeld
          go_wp2_with fail
          go_meet
          case rel => exact ⟨bb, A6, B6, c6, d6, v, h, rfl, hbb5, (yb.set0 _).set1 _, OSt.lo (⟨own_far (own_far o6.v (p := ⟨bb, 0, none⟩) (fun j hj e => offv j hj e.symm) _) (p := ⟨bb, 1, none⟩) (fun j hj e => offv j hj e.symm) _, own_far (own_far o6.h (p := ⟨bb, 0, none⟩) (fun j hj e => offh j hj e.symm) _) (p := ⟨bb, 1, none⟩) (fun j hj e => offh j hj e.symm) _, o6.ap⟩) (by omega), hvl, hhl, (rd_far (rd_far hF.rd (by show g < bb; omega) _) (by show g < bb; omega) _).more (by omega), by_set1 (by_set1 hF.by_ hbb5 _) hbb5 _⟩
      · have hd3 := hHeld
        go_simp
        refine hK.out _ _ ⟨(Grow.alloc (Grow.refl _) _).cell hHeld.1, (Grow.alloc (Grow.refl _) _).cell hHeld.2.1, (Grow.alloc (Grow.refl _) _).cell hHeld.2.2⟩ (fun hHeld => ?_)
        clear hK K hd3
        (try simp only [Act.put, List.setIfInBounds_toArray, List.set_cons_zero, List.set_cons_succ])
        have yb := Box2.new W3 43 (.slice none 0 0) (.slice none 0 0)
        have hlt7 := yb.lt
        have q9 : Grow W3 (W3.alloc (.cells #[.slice none 0 0, .slice none 0 0] 43)) := (by repeat (first | exact Grow.refl _ | assumption | refine Grow.alloc ?_ _ | refine Grow.drew ?_ | refine Grow.drewN ?_ _ | refine Grow.trans ?_ (by assumption) | refine Grow.below ?_ (by assumption) (by first | exact Nat.le_refl _ | omega)))
        replace hF := hF.grow q9
        (try replace oS := oS.grow q9)
        (try replace o6 := o6.grow q9)
        have hsz7 := q9.le
        clear q9
        generalize W3.alloc (.cells #[.slice none 0 0, .slice none 0 0] 43) = W7 at *
        generalize hbb : W3.heap.size = bb at *
        refine pop_one 4 (by decide +kernel) rfl (fun K hK => ?_)
        have hd3 := hHeld
        go_simp
        refine hK.out _ _ ⟨(Grow.alloc (Grow.refl _) _).cell hHeld.1, (Grow.alloc (Grow.refl _) _).cell hHeld.2.1, (Grow.alloc (Grow.refl _) _).cell hHeld.2.2⟩ (fun hHeld => ?_)
        clear hK K hd3
        (try simp only [Act.put, List.setIfInBounds_toArray, List.set_cons_zero, List.set_cons_succ])
        have oS := two_atoms W7 x y w5.heap.size (by omega)
        have q9 : Grow W7 (W7.alloc (.cells #[.int .i64 x.k, .int .i64 x.a, .int .i64 x.b, .int .i64 y.k, .int .i64 y.a, .int .i64 y.b] 45)) := (by repeat (first | exact Grow.refl _ | assumption | refine Grow.alloc ?_ _ | refine Grow.drew ?_ | refine Grow.drewN ?_ _ | refine Grow.trans ?_ (by assumption) | refine Grow.below ?_ (by assumption) (by first | exact Nat.le_refl _ | omega)))
        replace hF := hF.grow q9
        (try replace yb := yb.grow q9)
        have hsz4 := q9.le
        clear q9
        generalize W7.alloc (.cells #[.int .i64 x.k, .int .i64 x.a, .int .i64 x.b, .int .i64 y.k, .int .i64 y.a, .int .i64 y.b] 45) = W4 at *
        refine pop_take 5 (v := ?_) rfl (by kernel_rfl) (by kernel_rfl) (by kernel_rfl) (fun _ _ _ h => h) (by rfl) (by assumption) ?_ ?_
        rotate_left 1
        · (intro W hSw; (try dsimp only at hSw); go_simp; (try with_reducible rfl))
        (try simp only [Act.put, List.setIfInBounds_toArray, List.set_cons_zero, List.set_cons_succ])
        refine pop_one 6 (by decide +kernel) rfl (fun K hK => ?_)
        have hd3 := hHeld
        go_simp
        go_at_call 49
        refine (l4Build_c g q4 w5.heap.size none _ 0 2 ⟨[], [x, y]⟩ _ (hF.rd.more (by omega)) (by omega) oS (by omega) (by omega) ((Pl.asv_iff _).2 ⟨(Pl.fsv_iff _).2 ⟨by simp, by simp⟩, by simp, by simp [hx, hy]⟩)).mono ?_
        rintro e W6 ⟨⟨A6, B6, c6, d6, v, h, rfl, o6, hv8, hh8⟩, hr6, b6⟩
        go_wp2_with fail
        refine hK.out _ _ ⟨b6.cell hHeld.1 (fun e => hne (by injection e)), b6.cell hHeld.2.1 (fun e => hne (by injection e)), b6.cell hHeld.2.2 (fun e => hne (by injection e))⟩ (fun hHeld => ?_)
        clear hK K hd3
        (try simp only [Act.put, List.setIfInBounds_toArray, List.set_cons_zero, List.set_cons_succ])
        replace hF := hF.step hr6 b6
        (try replace yb := yb.kept b6 (by intro e; injection e with e; omega))
        have hsz6 := b6.size
        have hvl : v.length ≤ 8 := by omega
        have hhl : h.length ≤ 8 := by omega
        have bdv := o6.bdv
        have bdh := o6.bdh
        clear hr6 b6 hv8 hh8 oS
        obtain ⟨p0, p1, p2, p3⟩ := yb.facts
        have offv : ∀ j, (Value.slice A6 v.length c6).ownBlock = some j → j ≠ bb := fun j hj => by have := bdv j hj; omega
        have offh : ∀ j, (Value.slice B6 h.length d6).ownBlock = some j → j ≠ bb := fun j hj => by have := bdh j hj; omega
        have hbb5 : w5.heap.size ≤ bb := by omega
        refine pop_one 8 (by decide +kernel) rfl (fun K hK => ?_)
        go_simp
        refine hK.out _ _ ⟨cell_far2 (by omega) hHeld.1, cell_far2 (by omega) hHeld.2.1, cell_far2 (by omega) hHeld.2.2⟩ (fun hHeld => ?_)
        clear hK K
        (try simp only [Act.put, List.setIfInBounds_toArray, List.set_cons_zero, List.set_cons_succ])
        refine wpAnyH_done (by kernel_rfl) ?_ _
        clear hHeld
        go_wp2_with fail
        go_meet
        case rel => exact ⟨bb, A6, B6, c6, d6, v, h, rfl, hbb5, (yb.set0 _).set1 _, OSt.lo (⟨own_far (own_far o6.v (p := ⟨bb, 0, none⟩) (fun j hj e => offv j hj e.symm) _) (p := ⟨bb, 1, none⟩) (fun j hj e => offv j hj e.symm) _, own_far (own_far o6.h (p := ⟨bb, 0, none⟩) (fun j hj e => offh j hj e.symm) _) (p := ⟨bb, 1, none⟩) (fun j hj e => offh j hj e.symm) _, o6.ap⟩) (by omega), hvl, hhl, (rd_far (rd_far hF.rd (by show g < bb; omega) _) (by show g < bb; omega) _).more (by omega), by_set1 (by_set1 hF.by_ hbb5 _) hbb5 _⟩
    · have hd3 := hHeld
      go_simp
      refine hK.out _ _ ⟨(Grow.alloc (Grow.refl _) _).cell hHeld.1, (Grow.alloc (Grow.refl _) _).cell hHeld.2.1, (Grow.alloc (Grow.refl _) _).cell hHeld.2.2⟩ (fun hHeld => ?_)
      clear hK K hd3
      (try simp only [Act.put, List.setIfInBounds_toArray, List.set_cons_zero, List.set_cons_succ])
      have yb := Box2.new W0 43 (.slice none 0 0) (.slice none 0 0)
      have hlt7 := yb.lt
      have q9 : Grow W0 (W0.alloc (.cells #[.slice none 0 0, .slice none 0 0] 43)) := (by repeat (first | exact Grow.refl _ | assumption | refine Grow.alloc ?_ _ | refine Grow.drew ?_ | refine Grow.drewN ?_ _ | refine Grow.trans ?_ (by assumption) | refine Grow.below ?_ (by assumption) (by first | exact Nat.le_refl _ | omega)))
      replace hF := hF.grow q9
      (try replace oS := oS.grow q9)
      (try replace o6 := o6.grow q9)
      have hsz7 := q9.le
      clear q9
      generalize W0.alloc (.cells #[.slice none 0 0, .slice none 0 0] 43) = W7 at *
      generalize hbb : W0.heap.size = bb at *
      refine pop_one 3 (by decide +kernel) rfl (fun K hK => ?_)
      have hd3 := hHeld
      go_simp
      go_at_call 48
      (with_reducible refine (l3Point_c g q3 _ hF.rd (by omega)).mono ?_)
      rintro e W3 ⟨⟨y, hy, rfl⟩, hr6, b6⟩
      go_wp2_with fail
      refine hK.out _ _ ⟨b6.cell hHeld.1 (fun e => hne (by injection e)), b6.cell hHeld.2.1 (fun e => hne (by injection e)), b6.cell hHeld.2.2 (fun e => hne (by injection e))⟩ (fun hHeld => ?_)
      clear hK K hd3
      (try simp only [Act.put, List.setIfInBounds_toArray, List.set_cons_zero, List.set_cons_succ])
      replace hF := hF.step hr6 b6
      (try replace yb := yb.kept b6 (by intro e; injection e with e; omega))
      have hsz3 := b6.size
      clear hr6 b6
      refine pop_one 4 (by decide +kernel) rfl (fun K hK => ?_)
      have hd3 := hHeld
      go_simp
      refine hK.out _ _ ⟨(Grow.alloc (Grow.refl _) _).cell hHeld.1, (Grow.alloc (Grow.refl _) _).cell hHeld.2.1, (Grow.alloc (Grow.refl _) _).cell hHeld.2.2⟩ (fun hHeld => ?_)
      clear hK K hd3
      (try simp only [Act.put, List.setIfInBounds_toArray, List.set_cons_zero, List.set_cons_succ])
      have oS := two_atoms W3 x y w5.heap.size (by omega)
      have q9 : Grow W3 (W3.alloc (.cells #[.int .i64 x.k, .int .i64 x.a, .int .i64 x.b, .int .i64 y.k, .int .i64 y.a, .int .i64 y.b] 45)) := (by repeat (first | exact Grow.refl _ | assumption | refine Grow.alloc ?_ _ | refine Grow.drew ?_ | refine Grow.drewN ?_ _ | refine Grow.trans ?_ (by assumption) | refine Grow.below ?_ (by assumption) (by first | exact Nat.le_refl _ | omega)))
      replace hF := hF.grow q9
      (try replace yb := yb.grow q9)
      have hsz4 := q9.le
      clear q9
      generalize W3.alloc (.cells #[.int .i64 x.k, .int .i64 x.a, .int .i64 x.b, .int .i64 y.k, .int .i64 y.a, .int .i64 y.b] 45) = W4 at *
      refine pop_take 5 (v := ?_) rfl (by kernel_rfl) (by kernel_rfl) (by kernel_rfl) (fun _ _ _ h => h) (by rfl) (by assumption) ?_ ?_
      rotate_left 1
      · (intro W hSw; (try dsimp only at hSw); go_simp; (try with_reducible rfl))
      (try simp only [Act.put, List.setIfInBounds_toArray, List.set_cons_zero, List.set_cons_succ])
      refine pop_one 6 (by decide +kernel) rfl (fun K hK => ?_)
      have hd3 := hHeld
      go_simp
      go_at_call 49
      refine (l4Build_c g q4 w5.heap.size none _ 0 2 ⟨[], [x, y]⟩ _ (hF.rd.more (by omega)) (by omega) oS (by omega) (by omega) ((Pl.asv_iff _).2 ⟨(Pl.fsv_iff _).2 ⟨by simp, by simp⟩, by simp, by simp [hx, hy]⟩)).mono ?_
      rintro e W6 ⟨⟨A6, B6, c6, d6, v, h, rfl, o6, hv8, hh8⟩, hr6, b6⟩
      go_wp2_with fail
      refine hK.out _ _ ⟨b6.cell hHeld.1 (fun e => hne (by injection e)), b6.cell hHeld.2.1 (fun e => hne (by injection e)), b6.cell hHeld.2.2 (fun e => hne (by injection e))⟩ (fun hHeld => ?_)
      clear hK K hd3
      (try simp only [Act.put, List.setIfInBounds_toArray, List.set_cons_zero, List.set_cons_succ])
      replace hF := hF.step hr6 b6
      (try replace yb := yb.kept b6 (by intro e; injection e with e; omega))
      have hsz6 := b6.size
      have hvl : v.length ≤ 8 := by omega
      have hhl : h.length ≤ 8 := by omega
      have bdv := o6.bdv
      have bdh := o6.bdh
      clear hr6 b6 hv8 hh8 oS
      obtain ⟨p0, p1, p2, p3⟩ := yb.facts
      have offv : ∀ j, (Value.slice A6 v.length c6).ownBlock = some j → j ≠ bb := fun j hj => by have := bdv j hj; omega
      have offh : ∀ j, (Value.slice B6 h.length d6).ownBlock = some j → j ≠ bb := fun j hj => by have := bdh j hj; omega
      have hbb5 : w5.heap.size ≤ bb := by omega
      refine pop_one 8 (by decide +kernel) rfl (fun K hK => ?_)
      go_simp
      refine hK.out _ _ ⟨cell_far2 (by omega) hHeld.1, cell_far2 (by omega) hHeld.2.1, cell_far2 (by omega) hHeld.2.2⟩ (fun hHeld => ?_)
      clear hK K
      (try simp only [Act.put, List.setIfInBounds_toArray, List.set_cons_zero, List.set_cons_succ])
      refine wpAnyH_done (by kernel_rfl) ?_ _
      clear hHeld
      go_wp2_with fail
      go_meet
      case rel => exact ⟨bb, A6, B6, c6, d6, v, h, rfl, hbb5, (yb.set0 _).set1 _, OSt.lo (⟨own_far (own_far o6.v (p := ⟨bb, 0, none⟩) (fun j hj e => offv j hj e.symm) _) (p := ⟨bb, 1, none⟩) (fun j hj e => offv j hj e.symm) _, own_far (own_far o6.h (p := ⟨bb, 0, none⟩) (fun j hj e => offh j hj e.symm) _) (p := ⟨bb, 1, none⟩) (fun j hj e => offh j hj e.symm) _, o6.ap⟩) (by omega), hvl, hhl, (rd_far (rd_far hF.rd (by show g < bb; omega) _) (by show g < bb; omega) _).more (by omega), by_set1 (by_set1 hF.by_ hbb5 _) hbb5 _⟩
  case rest =>
    obtain ⟨b6, A6, B6, c6, d6, v, h, rfl, hb6, y6, o6, hvl, hhl, hr6, bc⟩ := hcut
    replace y2 := y2.kept bc (by intro e; injection e with e; omega)
    replace y3 := y3.kept bc (by intro e; injection e with e; omega)
    replace y5 := y5.kept bc (by intro e; injection e with e; omega)
    replace G0 := G0.grown bc (fun k hk => by injection hk with hk; omega)
    have hs6 := bc.size
    have hl6 := y6.lt
    clear bc hr4' k0 k1 k2
    go_wp2_with fail
    refine (pick_c g 60 20 _ hr6 (by omega) (by omega) (by omega)).mono ?_
    rintro e wp ⟨⟨p, hp, rfl⟩, hrp, bp⟩
    replace y2 := y2.kept bp (by intro e; injection e with e; omega)
    replace y3 := y3.kept bp (by intro e; injection e with e; omega)
    replace y5 := y5.kept bp (by intro e; injection e with e; omega)
    replace y6 := y6.kept bp (by intro e; injection e with e; omega)
    replace o6 := o6.kept bp (fun k hk => by injection hk with hk; omega)
    replace G0 := G0.grown bp (fun k hk => by injection hk with hk; omega)
    have hsp := bp.size
    clear bp hr6
    by_cases hp0 : p = 0
    · have b0 : ((p : Int) == 0) = true := by simp [hp0]
      clear hp0 hp
      go_wp2_with fail
      have hlit := lit_own wp [0, 3] _ rfl (by simp)
      refine (num_c g 61 2 wp.heap.size _ [0, 3] _ (hrp.grow (by repeat (first | exact Grow.refl _ | assumption | refine Grow.alloc ?_ _ | refine Grow.drew ?_ | refine Grow.drewN ?_ _ | refine Grow.trans ?_ (by assumption) | refine Grow.below ?_ (by assumption) (by first | exact Nat.le_refl _ | omega)))) (by omega) (by simp) (by simp) hlit (by omega)).mono ?_
      rintro e wl ⟨⟨kk, hkk, rfl⟩, hrl, bl⟩
      have q : Grow wp (wp.alloc (.cells #[.int .i64 0, .int .i64 3] 3)) := (by repeat (first | exact Grow.refl _ | assumption | refine Grow.alloc ?_ _ | refine Grow.drew ?_ | refine Grow.drewN ?_ _ | refine Grow.trans ?_ (by assumption) | refine Grow.below ?_ (by assumption) (by first | exact Nat.le_refl _ | omega)))
      replace y2 := (y2.grow q).kept bl (by intro e; injection e with e; omega)
      replace y3 := (y3.grow q).kept bl (by intro e; injection e with e; omega)
      replace y5 := (y5.grow q).kept bl (by intro e; injection e with e; omega)
      replace y6 := (y6.grow q).kept bl (by intro e; injection e with e; omega)
      replace o6 := (o6.grow q).kept bl (fun k hk => by injection hk with hk; omega)
      replace G0 := (G0.trans q).grown bl (fun k hk => by injection hk with hk; omega)
      have hsl := y6.lt
      have hsg := hrl.lt
      clear q bl hrp hlit hkk
      obtain ⟨r0, r1, r2⟩ := y5.facts
      have f0 := y5.frz 0
      go_wp2_with fail
      have z2 := y2.far (p := ⟨w4.heap.size, 0, none⟩) (by show w.heap.size ≠ w4.heap.size; omega) (.int .i64 kk)
      have z3 := y3.far (p := ⟨w4.heap.size, 0, none⟩) (by show w.heap.size + 1 ≠ w4.heap.size; omega) (.int .i64 kk)
      have z6 := y6.far (p := ⟨w4.heap.size, 0, none⟩) (by show b6 ≠ w4.heap.size; omega) (.int .i64 kk)
      have z5 := y5.set0 (.int .i64 kk)
      have zo := o6.far (p := ⟨w4.heap.size, 0, none⟩) (by show w4.heap.size < w5.heap.size; omega) (.int .i64 kk)
      have zr := rd_far hrl (p := ⟨w4.heap.size, 0, none⟩) (by show g < w4.heap.size; omega) (.int .i64 kk)
      have zG := G0.setCell (p := ⟨w4.heap.size, 0, none⟩) (by show w.heap.size ≤ w4.heap.size; omega) (.int .i64 kk)
      have hsz9 : wl.heap.size = (wl.setCell ⟨w4.heap.size, 0, none⟩ (.int .i64 kk)).heap.size := by simp [World.setCell]
      clear y2 y3 y5 y6 o6 hrl G0 r0 r1 r2 f0
      have y2 := z2; have y3 := z3; have y5 := z5; have y6 := z6; have o6 := zo; have hrl := zr; have G0 := zG
      clear z2 z3 z5 z6 zo zr zG
      generalize wl.setCell ⟨w4.heap.size, 0, none⟩ (.int .i64 kk) = wm at *
      obtain ⟨k0, k1, k2⟩ := y5.facts
      obtain ⟨m0, m1, _, _⟩ := y6.facts
      obtain ⟨j0, j1, e0, e1⟩ := y2.facts
      obtain ⟨i0, i1, i2⟩ := y3.facts
      have e2 := y3.frz 0
      have e3 := y3.frz 1
      have e4 := y3.frz 2
      have hb5 : ¬ w4.heap.size = g := by omega
      have hb6 : ¬ b6 = g := by omega
      try go_wp2_with fail
      refine wp_region_held_drew (S := (fun W => W.cell? ⟨b6, 0, none⟩ = some (.slice A6 v.length c6) ∧ W.cell? ⟨b6, 1, none⟩ = some (.slice B6 h.length d6) ∧ W.cell? ⟨w4.heap.size, 0, none⟩ = some (.int .i64 kk) ∧ W.cell? ⟨w4.heap.size, 1, none⟩ = some (.int .i64 x.a) ∧ W.cell? ⟨w4.heap.size, 2, none⟩ = some (.int .i64 x.b))) (by kernel_rfl) ?_ (fun hHeld => ?_)
      · exact ⟨m0, m1, k0, k1, k2⟩
      refine pop_take 0 (v := ?_) rfl (by kernel_rfl) (by kernel_rfl) (by kernel_rfl) (fun _ _ _ h => h) (by rfl) (by assumption) ?_ ?_
      rotate_left 1
      · (intro W hSw; (try dsimp only at hSw); go_simp; (try with_reducible rfl))
      (try simp only [Act.put, List.setIfInBounds_toArray, List.set_cons_zero, List.set_cons_succ])
      refine pop_take 1 (v := ?_) rfl (by kernel_rfl) (by kernel_rfl) (by kernel_rfl) (fun _ _ _ h => h) (by rfl) (by assumption) ?_ ?_
      rotate_left 1
      · (intro W hSw; (try dsimp only at hSw); go_simp; (try with_reducible rfl))
      (try simp only [Act.put, List.setIfInBounds_toArray, List.set_cons_zero, List.set_cons_succ])
      refine pop_take 3 (v := ?_) rfl (by kernel_rfl) (by kernel_rfl) (by kernel_rfl) (fun _ _ _ h => h) (by rfl) (by assumption) ?_ ?_
      rotate_left 1
      · (intro W hSw; (try dsimp only at hSw); go_simp; (try with_reducible rfl))
      (try simp only [Act.put, List.setIfInBounds_toArray, List.set_cons_zero, List.set_cons_succ])
      have qd : Grow wm wm.drew := (by repeat (first | exact Grow.refl _ | assumption | refine Grow.alloc ?_ _ | refine Grow.drew ?_ | refine Grow.drewN ?_ _ | refine Grow.trans ?_ (by assumption) | refine Grow.below ?_ (by assumption) (by first | exact Nat.le_refl _ | omega)))
      have S6 := (o6.st.grow qd)
      refine pop_one 2 (by kernel_rfl) rfl (fun K hK => ?_)
      go_simp
      (go_at_call 51; refine (l2Mutate_c g 62 A6 B6 c6 d6 ⟨v, h⟩ _ (hrl.grow qd) (by omega) S6 (by show v.length ≤ _; omega) (by show h.length ≤ _; omega)).mono ?_; rintro e w7 ⟨⟨A7, B7, c7, d7, v7, h7, rfl, o7, hv7, hh7⟩, hr7, b7⟩)
      go_wp2_with fail
      refine hK.out _ _ ?_ (fun hHeld => ?_)
      · exact ⟨b7.cell hHeld.1 (fun e => hb6 (by injection e)), b7.cell hHeld.2.1 (fun e => hb6 (by injection e)), b7.cell hHeld.2.2.1 (fun e => hb5 (by injection e)), b7.cell hHeld.2.2.2.1 (fun e => hb5 (by injection e)), b7.cell hHeld.2.2.2.2 (fun e => hb5 (by injection e))⟩
      clear hK K
      (try simp only [Act.put, List.setIfInBounds_toArray, List.set_cons_zero, List.set_cons_succ])
      have b7' := by_trans (qd.by_ (some g)) b7
      have z2 := y2.kept b7' (by intro e; injection e with e; omega)
      have z3 := y3.kept b7' (by intro e; injection e with e; omega)
      have hs7 := b7'.size
      have hdz : wm.drew.heap.size = wm.heap.size := rfl
      have G7 := G0.grown b7' (fun k hk => by injection hk with hk; omega)
      clear b7 b7' e0 e1 e2 e3 e4 j0 j1 i0 i1 i2
      obtain ⟨j0, j1, e0, e1⟩ := z2.facts
      obtain ⟨i0, i1, i2⟩ := z3.facts
      have e2 := z3.frz 0
      have e3 := z3.frz 1
      have e4 := z3.frz 2
      refine pop_one 4 (by decide +kernel) rfl (fun K hK => ?_)
      go_simp
      refine hK.out _ _ ⟨cell_far2 (by omega) hHeld.1, cell_far2 (by omega) hHeld.2.1, cell_far2 (by omega) hHeld.2.2.1, cell_far2 (by omega) hHeld.2.2.2.1, cell_far2 (by omega) hHeld.2.2.2.2⟩ (fun hHeld => ?_)
      clear hK K
      (try simp only [Act.put, List.setIfInBounds_toArray, List.set_cons_zero, List.set_cons_succ])
      refine pop_one 5 (by decide +kernel) rfl (fun K hK => ?_)
      go_simp
      refine hK.out _ _ ⟨cell_far3 (by omega) hHeld.1, cell_far3 (by omega) hHeld.2.1, cell_far3 (by omega) hHeld.2.2.1, cell_far3 (by omega) hHeld.2.2.2.1, cell_far3 (by omega) hHeld.2.2.2.2⟩ (fun hHeld => ?_)
      clear hK K
      (try simp only [Act.put, List.setIfInBounds_toArray, List.set_cons_zero, List.set_cons_succ])
      refine wpAnyH_done (by kernel_rfl) ?_ _
      clear hHeld
      go_wp2_with fail
      refine bodyPost_ret (v := .tuple #[sval A7 B7 c7 d7 ⟨v7, h7⟩, xval ⟨kk, x.a, x.b⟩]) (by simp [results, Try.results16, go_sem, j0, j1, i0, i1, i2]) rfl ⟨A7, B7, c7, d7, v7, h7, ⟨kk, x.a, x.b⟩, rfl, ?_, ⟨by omega, by omega⟩, ?_⟩
      · exact (((((o7.far (by show w.heap.size < _; omega) _).far (by show w.heap.size < _; omega) _).far (by show w.heap.size + 1 < _; omega) _).far (by show w.heap.size + 1 < _; omega) _).far (by show w.heap.size + 1 < _; omega) _).lo (by omega)
      · exact ((((G7.setCell (Nat.le_refl _) _).setCell (Nat.le_refl _) _).setCell (by show w.heap.size ≤ w.heap.size + 1; omega) _).setCell (by show w.heap.size ≤ w.heap.size + 1; omega) _).setCell (by show w.heap.size ≤ w.heap.size + 1; omega) _
    · have b0 : ((p : Int) == 0) = false := by simp; omega
      clear hp0 hp
      obtain ⟨k0, k1, k2⟩ := y5.facts
      obtain ⟨m0, m1, _, _⟩ := y6.facts
      obtain ⟨j0, j1, e0, e1⟩ := y2.facts
      obtain ⟨i0, i1, i2⟩ := y3.facts
      have e2 := y3.frz 0
      have e3 := y3.frz 1
      have e4 := y3.frz 2
      have hb5 : ¬ w4.heap.size = g := by omega
      have hb6 : ¬ b6 = g := by omega
      try go_wp2_with fail
      refine wp_region_held_drew (S := (fun W => W.cell? ⟨b6, 0, none⟩ = some (.slice A6 v.length c6) ∧ W.cell? ⟨b6, 1, none⟩ = some (.slice B6 h.length d6) ∧ W.cell? ⟨w4.heap.size, 0, none⟩ = some (.int .i64 x.k) ∧ W.cell? ⟨w4.heap.size, 1, none⟩ = some (.int .i64 x.a) ∧ W.cell? ⟨w4.heap.size, 2, none⟩ = some (.int .i64 x.b))) (by kernel_rfl) ?_ (fun hHeld => ?_)
      · exact ⟨m0, m1, k0, k1, k2⟩
      refine pop_take 0 (v := ?_) rfl (by kernel_rfl) (by kernel_rfl) (by kernel_rfl) (fun _ _ _ h => h) (by rfl) (by assumption) ?_ ?_
      rotate_left 1
      · (intro W hSw; (try dsimp only at hSw); go_simp; (try with_reducible rfl))
      (try simp only [Act.put, List.setIfInBounds_toArray, List.set_cons_zero, List.set_cons_succ])
      refine pop_take 1 (v := ?_) rfl (by kernel_rfl) (by kernel_rfl) (by kernel_rfl) (fun _ _ _ h => h) (by rfl) (by assumption) ?_ ?_
      rotate_left 1
      · (intro W hSw; (try dsimp only at hSw); go_simp; (try with_reducible rfl))
      (try simp only [Act.put, List.setIfInBounds_toArray, List.set_cons_zero, List.set_cons_succ])
      refine pop_take 3 (v := ?_) rfl (by kernel_rfl) (by kernel_rfl) (by kernel_rfl) (fun _ _ _ h => h) (by rfl) (by assumption) ?_ ?_
      rotate_left 1
      · (intro W hSw; (try dsimp only at hSw); go_simp; (try with_reducible rfl))
      (try simp only [Act.put, List.setIfInBounds_toArray, List.set_cons_zero, List.set_cons_succ])
      have qd : Grow wp wp.drew := (by repeat (first | exact Grow.refl _ | assumption | refine Grow.alloc ?_ _ | refine Grow.drew ?_ | refine Grow.drewN ?_ _ | refine Grow.trans ?_ (by assumption) | refine Grow.below ?_ (by assumption) (by first | exact Nat.le_refl _ | omega)))
      have S6 := (o6.st.grow qd)
      refine pop_one 2 (by kernel_rfl) rfl (fun K hK => ?_)
      go_simp
      (go_at_call 51; refine (l2Mutate_c g 61 A6 B6 c6 d6 ⟨v, h⟩ _ (hrp.grow qd) (by omega) S6 (by show v.length ≤ _; omega) (by show h.length ≤ _; omega)).mono ?_; rintro e w7 ⟨⟨A7, B7, c7, d7, v7, h7, rfl, o7, hv7, hh7⟩, hr7, b7⟩)
      go_wp2_with fail
      refine hK.out _ _ ?_ (fun hHeld => ?_)
      · exact ⟨b7.cell hHeld.1 (fun e => hb6 (by injection e)), b7.cell hHeld.2.1 (fun e => hb6 (by injection e)), b7.cell hHeld.2.2.1 (fun e => hb5 (by injection e)), b7.cell hHeld.2.2.2.1 (fun e => hb5 (by injection e)), b7.cell hHeld.2.2.2.2 (fun e => hb5 (by injection e))⟩
      clear hK K
      (try simp only [Act.put, List.setIfInBounds_toArray, List.set_cons_zero, List.set_cons_succ])
      have b7' := by_trans (qd.by_ (some g)) b7
      have z2 := y2.kept b7' (by intro e; injection e with e; omega)
      have z3 := y3.kept b7' (by intro e; injection e with e; omega)
      have hs7 := b7'.size
      have hdz : wp.drew.heap.size = wp.heap.size := rfl
      have G7 := G0.grown b7' (fun k hk => by injection hk with hk; omega)
      clear b7 b7' e0 e1 e2 e3 e4 j0 j1 i0 i1 i2
      obtain ⟨j0, j1, e0, e1⟩ := z2.facts
      obtain ⟨i0, i1, i2⟩ := z3.facts
      have e2 := z3.frz 0
      have e3 := z3.frz 1
      have e4 := z3.frz 2
      refine pop_one 4 (by decide +kernel) rfl (fun K hK => ?_)
      go_simp
      refine hK.out _ _ ⟨cell_far2 (by omega) hHeld.1, cell_far2 (by omega) hHeld.2.1, cell_far2 (by omega) hHeld.2.2.1, cell_far2 (by omega) hHeld.2.2.2.1, cell_far2 (by omega) hHeld.2.2.2.2⟩ (fun hHeld => ?_)
      clear hK K
      (try simp only [Act.put, List.setIfInBounds_toArray, List.set_cons_zero, List.set_cons_succ])
      refine pop_one 5 (by decide +kernel) rfl (fun K hK => ?_)
      go_simp
      refine hK.out _ _ ⟨cell_far3 (by omega) hHeld.1, cell_far3 (by omega) hHeld.2.1, cell_far3 (by omega) hHeld.2.2.1, cell_far3 (by omega) hHeld.2.2.2.1, cell_far3 (by omega) hHeld.2.2.2.2⟩ (fun hHeld => ?_)
      clear hK K
      (try simp only [Act.put, List.setIfInBounds_toArray, List.set_cons_zero, List.set_cons_succ])
      refine wpAnyH_done (by kernel_rfl) ?_ _
      clear hHeld
      go_wp2_with fail
      refine bodyPost_ret (v := .tuple #[sval A7 B7 c7 d7 ⟨v7, h7⟩, xval ⟨x.k, x.a, x.b⟩]) (by simp [results, Try.results16, go_sem, j0, j1, i0, i1, i2]) rfl ⟨A7, B7, c7, d7, v7, h7, ⟨x.k, x.a, x.b⟩, rfl, ?_, ⟨by omega, by omega⟩, ?_⟩
      · exact (((((o7.far (by show w.heap.size < _; omega) _).far (by show w.heap.size < _; omega) _).far (by show w.heap.size + 1 < _; omega) _).far (by show w.heap.size + 1 < _; omega) _).far (by show w.heap.size + 1 < _; omega) _).lo (by omega)
      · exact ((((G7.setCell (Nat.le_refl _) _).setCell (Nat.le_refl _) _).setCell (by show w.heap.size ≤ w.heap.size + 1; omega) _).setCell (by show w.heap.size ≤ w.heap.size + 1; omega) _).setCell (by show w.heap.size ≤ w.heap.size + 1; omega) _

end Go.Proofs.Ytlcijjbeikoppaa
