/- The draw of an assertion that may be invalid. No conditions but the bounds on what the reader has picked. -/
import Derived.Test.YtifdefkkofngoaaDoorDrawB
namespace Go.Proofs.YtifdefkkofngoaaDoor
open Go.RowKit
set_option linter.unusedVariables false

/-- An assertion in rows of the call's own, neither of them block b. -/
structure OAx (w : World) (lo b : Nat) (A B : Option Addr) (c d : Nat) (s : Pl.Asr) : Prop where
  o : OAs w lo A B c d s
  bv : ∀ k, (Value.slice A s.f.length c).ownBlock = some k → k ≠ b
  bh : ∀ k, (Value.slice B s.a.length d).ownBlock = some k → k ≠ b
theorem OAx.grow {w w' : World} {lo b : Nat} {A B : Option Addr} {c d : Nat} {s : Pl.Asr} (k : OAx w lo b A B c d s) (g : Grow w w') : OAx w' lo b A B c d s := ⟨k.o.grow g, k.bv, k.bh⟩
theorem OAx.by_ {w w' : World} {lo b g : Nat} {A B : Option Addr} {c d : Nat} {s : Pl.Asr} (k : OAx w lo b A B c d s) (h : w.grownBy w' (some g)) (hg : g < lo) : OAx w' lo b A B c d s :=
  ⟨k.o.kept h (fun j e => by injection e with e; omega), k.bv, k.bh⟩
theorem OAx.far {w : World} {lo b : Nat} {A B : Option Addr} {c d : Nat} {s : Pl.Asr} (k : OAx w lo b A B c d s) {p : Addr} (hp : p.block = b) (u : Value) : OAx (w.setCell p u) lo b A B c d s :=
  ⟨⟨own_far k.o.v (fun j hj e => k.bv j hj (by rw [← e, hp])) u, own_far k.o.h (fun j hj e => k.bh j hj (by rw [← e, hp])) u, k.o.ap⟩, k.bv, k.bh⟩
/-- An atom was appended. -/
theorem OAx.push {w w' : World} {lo b : Nat} {A B A3 : Option Addr} {c d c3 : Nat} {v : List Pl.Fct} {h : List Pl.Atm} {x : Pl.Atm} (k : OAx w lo b A B c d ⟨v, h⟩) (hb : b < w.heap.size)
    (ho : w'.ownsRow lo 82 3 (.slice A3 (h.length + 1) c3) (h.length + 1) ((h ++ [x]).flatMap xcells)) (hg : w.grownBy w' (Value.slice B h.length d).ownBlock)
    (ha : (Value.slice A3 (h.length + 1) c3).ownBlock = (Value.slice B h.length d).ownBlock ∨ (Value.slice A3 (h.length + 1) c3).ownBlock = some w.heap.size) : OAx w' lo b A A3 c c3 ⟨v, h ++ [x]⟩ := by
  have hv : w.ownsRow lo 78 3 (.slice A v.length c) v.length (v.flatMap fcells) := k.o.v
  have ap : ∀ k, (Value.slice A v.length c).ownBlock = some k → (Value.slice B h.length d).ownBlock ≠ some k := k.o.ap
  have bv : ∀ k, (Value.slice A v.length c).ownBlock = some k → k ≠ b := k.bv
  have bh : ∀ k, (Value.slice B h.length d).ownBlock = some k → k ≠ b := k.bh
  have e : (Value.slice A3 (h ++ [x]).length c3).ownBlock = (Value.slice A3 (h.length + 1) c3).ownBlock := by rw [List.length_append]; rfl
  refine ⟨⟨own_kept hv hg ap, oatoms_snc ho, fun j hj => ?_⟩, bv, fun j hj => ?_⟩
  · show (Value.slice A3 (h ++ [x]).length c3).ownBlock ≠ some j
    rw [e]
    rcases ha with ha | ha
    · rw [ha]; exact ap j hj
    · rw [ha]; intro q; injection q with q; have := (own_blk hv j hj).2; omega
  · have hj' : (Value.slice A3 (h ++ [x]).length c3).ownBlock = some j := hj
    rw [e] at hj'
    rcases ha with ha | ha
    · rw [ha] at hj'; exact bh j hj'
    · rw [ha] at hj'; injection hj' with q; omega
theorem nums3 {a : Int} {l : List Int} (h : a ∈ l) : True := trivial



set_option maxRecDepth 100000 in
set_option maxHeartbeats 3200000 in
theorem l3Mutate_c (g q : Nat) (A B : Option Addr) (c d : Nat) (s : Pl.Asr) (w : World) (hr : RD w g q) (hq : q ≤ 700000) (hS : Asrs w A B s) (h1 : s.f.length ≤ 60) (h2 : s.a.length ≤ 60) :
    Calls Tryd.prog 103 #[.pointer (some ⟨g, 0, none⟩), asval A B c d s] w fun e w' => (∃ A B c d s', e = .returned (asval A B c d s') ∧ OAs w' w.heap.size A B c d s' ∧ s'.f.length ≤ s.f.length + 14 ∧ s'.a.length ≤ s.a.length + 7) ∧ RD w' g (q + 10) ∧ w.grownBy w' (some g) := by
  obtain ⟨v, h⟩ := s
  replace h1 : v.length ≤ 60 := h1
  replace h2 : h.length ≤ 60 := h2
  have hlt := hr.lt
  obtain ⟨i0, hi, hz0, hz1, hz2⟩ := info_parts fact_info
  obtain ⟨i1, hj, hy0, hy1, hy2⟩ := info_parts atom_info
  have y3 := (Box2.new w 46 (.slice A v.length c) (.slice B h.length d)).grow (show Grow _ ((w.alloc (.cells #[.slice A v.length c, .slice B h.length d] 46)).alloc (.cells #[.slice none 0 0, .slice none 0 0] 46)) from Grow.alloc (Grow.refl _) _)
  have y4 := Box2.new (w.alloc (.cells #[.slice A v.length c, .slice B h.length d] 46)) 46 (.slice none 0 0) (.slice none 0 0)
  have G0 : Grow w ((w.alloc (.cells #[.slice A v.length c, .slice B h.length d] 46)).alloc (.cells #[.slice none 0 0, .slice none 0 0] 46)) := (by repeat (first | exact Grow.refl _ | assumption | refine Grow.alloc ?_ _ | refine Grow.drew ?_ | refine Grow.drewN ?_ _ | refine Grow.trans ?_ (by assumption) | refine Grow.below ?_ (by assumption) (by first | exact Nat.le_refl _ | omega)))
  have hz : ((w.alloc (.cells #[.slice A v.length c, .slice B h.length d] 46)).alloc (.cells #[.slice none 0 0, .slice none 0 0] 46)).heap.size = w.heap.size + 2 := by simp
  simp only [World.size_alloc] at y4
  go_enter Tryd.func103, Tryd.ntmps103
  obtain ⟨k0, k1, _, _⟩ := y3.facts
  go_wp2_with fail
  generalize (w.alloc (.cells #[.slice A v.length c, .slice B h.length d] 46)).alloc (.cells #[.slice none 0 0, .slice none 0 0] 46) = w0 at *
  refine (l3Copy_c A B c d ⟨v, h⟩ _ (hS.grow G0) (by show v.length ≤ _; omega) (by show h.length ≤ _; omega)).mono ?_
  rintro e w1 ⟨A1, B1, c1, d1, rfl, o1, g1⟩
  clear k0 k1 y3
  rw [hz] at o1
  have hs1 := g1.le
  rw [hz] at hs1
  have X := (OAx.mk (b := w1.heap.size) o1 (fun k hk => Nat.ne_of_lt (o1.bdv k hk).2) (fun k hk => Nat.ne_of_lt (o1.bdh k hk).2)).grow (show Grow w1 (w1.alloc (.cells #[.slice A1 v.length c1, .slice B1 h.length d1] 46)) from (by repeat (first | exact Grow.refl _ | assumption | refine Grow.alloc ?_ _ | refine Grow.drew ?_ | refine Grow.drewN ?_ _ | refine Grow.trans ?_ (by assumption) | refine Grow.below ?_ (by assumption) (by first | exact Nat.le_refl _ | omega))))
  have y5 := Box2.new w1 46 (.slice A1 v.length c1) (.slice B1 h.length d1)
  replace y4 := (y4.grow g1).grow (show Grow w1 (w1.alloc (.cells #[.slice A1 v.length c1, .slice B1 h.length d1] 46)) from (by repeat (first | exact Grow.refl _ | assumption | refine Grow.alloc ?_ _ | refine Grow.drew ?_ | refine Grow.drewN ?_ _ | refine Grow.trans ?_ (by assumption) | refine Grow.below ?_ (by assumption) (by first | exact Nat.le_refl _ | omega))))
  have G1 : Grow w (w1.alloc (.cells #[.slice A1 v.length c1, .slice B1 h.length d1] 46)) := (by repeat (first | exact Grow.refl _ | assumption | refine Grow.alloc ?_ _ | refine Grow.drew ?_ | refine Grow.drewN ?_ _ | refine Grow.trans ?_ (by assumption) | refine Grow.below ?_ (by assumption) (by first | exact Nat.le_refl _ | omega)))
  have hz5 := y5.lt
  clear o1 g1 G0 hz hS
  go_wp2_with fail
  generalize w1.alloc (.cells #[.slice A1 v.length c1, .slice B1 h.length d1] 46) = w2 at *
  refine (pick_c g q 50 _ (hr.grow G1) (by omega) (by omega) (by omega)).mono ?_
  rintro e w3 ⟨⟨p, hp, rfl⟩, hr2, b3⟩
  have B2 : w.grownBy w3 (some g) := by_trans (G1.by_ _) b3
  replace X := X.by_ b3 (by omega)
  replace y4 := y4.kept b3 (by intro e; injection e with e; omega)
  replace y5 := y5.kept b3 (by intro e; injection e with e; omega)
  have hs3 := b3.size
  clear b3 G1 hr
  rcases (show p = 0 ∨ p = 1 ∨ p = 2 ∨ 3 ≤ p from by omega) with rfl | rfl | rfl | h3
  · clear hp
    have oV : OFacts w3 (w.heap.size + 2) (.slice A1 v.length c1) v := X.o.v
    have oH : OAtoms w3 (w.heap.size + 2) (.slice B1 h.length d1) h := X.o.h
    have ap : ∀ k, (Value.slice A1 v.length c1).ownBlock = some k → (Value.slice B1 h.length d1).ownBlock ≠ some k := X.o.ap
    have bv : ∀ k, (Value.slice A1 v.length c1).ownBlock = some k → k ≠ w1.heap.size := X.bv
    have bh : ∀ k, (Value.slice B1 h.length d1).ownBlock = some k → k ≠ w1.heap.size := X.bh
    obtain ⟨k0, k1, _, _⟩ := y5.facts
    go_wp2_with (at_builtin; go_must (refine wpList_append_src _ rfl _ _ 43 rfl (w.heap.size + 2) 78 i0 _ 3 24 Tryd.underlying43 hi hz0 hz1 hz2 rfl (by omega) _ v.length (v.flatMap fcells) rfl (own_grow oV (by repeat (first | exact Grow.refl _ | assumption | refine Grow.alloc ?_ _ | refine Grow.drew ?_ | refine Grow.drewN ?_ _ | refine Grow.trans ?_ (by assumption) | refine Grow.below ?_ (by assumption) (by first | exact Nat.le_refl _ | omega)))) _ 1 1 (fcells ⟨false, 9, 0⟩) rfl rfl (Cells.block (heap_alloc_new _ _)) (fcells_one _) (by unfold maxLen; omega) (by omega) (by simp; omega) (v.length + 1) rfl ((v ++ [(⟨false, 9, 0⟩ : Pl.Fct)]).flatMap fcells) (by rw [List.flatMap_append]; simp) ?_; intro A3 c3 w6 ho6 hgr6 hat6 hb6))
    have y6 := (y5.grow (show Grow w3 (w3.alloc _) from (by repeat (first | exact Grow.refl _ | assumption | refine Grow.alloc ?_ _ | refine Grow.drew ?_ | refine Grow.drewN ?_ _ | refine Grow.trans ?_ (by assumption) | refine Grow.below ?_ (by assumption) (by first | exact Nat.le_refl _ | omega))))).kept hgr6 (fun e => bv _ e rfl)
    have y7 := (y4.grow (show Grow w3 (w3.alloc _) from (by repeat (first | exact Grow.refl _ | assumption | refine Grow.alloc ?_ _ | refine Grow.drew ?_ | refine Grow.drewN ?_ _ | refine Grow.trans ?_ (by assumption) | refine Grow.below ?_ (by assumption) (by first | exact Nat.le_refl _ | omega))))).bel hb6 (by omega)
    have oH6 : OAtoms w6 (w.heap.size + 2) (.slice B1 h.length d1) h := own_kept (own_grow oH (by repeat (first | exact Grow.refl _ | assumption | refine Grow.alloc ?_ _ | refine Grow.drew ?_ | refine Grow.drewN ?_ _ | refine Grow.trans ?_ (by assumption) | refine Grow.below ?_ (by assumption) (by first | exact Nat.le_refl _ | omega)))) hgr6 (fun k hk e => ap k e hk)
    have RD6 := (hr2.grow (show Grow w3 (w3.alloc _) from (by repeat (first | exact Grow.refl _ | assumption | refine Grow.alloc ?_ _ | refine Grow.drew ?_ | refine Grow.drewN ?_ _ | refine Grow.trans ?_ (by assumption) | refine Grow.below ?_ (by assumption) (by first | exact Nat.le_refl _ | omega))))).below hb6 (by omega)
    have B6 := by_below (by_grow B2 (show Grow w3 (w3.alloc _) from (by repeat (first | exact Grow.refl _ | assumption | refine Grow.alloc ?_ _ | refine Grow.drew ?_ | refine Grow.drewN ?_ _ | refine Grow.trans ?_ (by assumption) | refine Grow.below ?_ (by assumption) (by first | exact Nat.le_refl _ | omega))))) hb6 (by omega)
    have hs6 := hb6.size
    simp only [World.size_alloc] at hs6
    clear k0 k1 oV oH y5 y4 hr2 B2 hgr6 hat6 hb6 X
    refine (l1Mutate_c g (q + 1) A3 (v.length + 1) c3 (v ++ [⟨false, 9, 0⟩]) _ RD6 (by omega) (by simp) (OFacts.facts rfl (ofacts_snc ho6)) (by simp; omega)).mono ?_
    rintro e w7 ⟨⟨l7, A7, c7, hl7, rfl, o7⟩, hr7, b7⟩
    replace y6 := y6.kept b7 (by intro e; injection e with e; omega)
    replace y7 := y7.kept b7 (by intro e; injection e with e; omega)
    have bH := own_bd oH6
    replace oH6 : OAtoms w7 (w.heap.size + 2) (.slice B1 h.length d1) h := own_kept oH6 b7 (fun k hk e => by have := (bH k hk).1; injection e with e; omega)
    have B7 := by_trans B6 b7
    have hl8 : l7.length ≤ v.length + 14 := by simp at hl7; omega
    clear B6 b7 RD6 ho6 hl7
    obtain ⟨k0, k1, f0, f1⟩ := y6.facts
    obtain ⟨j0, j1, e0, e1⟩ := y7.facts
    have hn1 : w.heap.size + 1 < w1.heap.size := by omega
    go_wp2_with fail
    refine bodyPost_ret (v := .agg #[.slice A7 l7.length c7, .slice B1 h.length d1]) (by simp [results, Tryd.results103, go_sem, j0, j1]) rfl ⟨⟨A7, B1, c7, d1, ⟨l7, h⟩, rfl, ⟨?_, ?_, ?_⟩, hl8, by show h.length ≤ h.length + 7; omega⟩, ?_, ?_⟩
    · exact own_lo (own_far_lo (own_far_lo (own_far_lo o7 (by show w1.heap.size < w6.heap.size; omega) _) (by show w.heap.size + 1 < w6.heap.size; omega) _) (by show w.heap.size + 1 < w6.heap.size; omega) _) (by omega)
    · exact own_lo (own_far_lo (own_far_lo (own_far oH6 (p := ⟨w1.heap.size, 0, none⟩) (fun k hk e => bh k hk e.symm) _) (by show w.heap.size + 1 < w.heap.size + 2; omega) _) (by show w.heap.size + 1 < w.heap.size + 2; omega) _) (by omega)
    · exact Bd.apart (own_bd o7) bH (.inr (Nat.le_refl _))
    · exact (rd_far (rd_far (rd_far hr7 (by show g < w1.heap.size; omega) _) (by show g < w.heap.size + 1; omega) _) (by show g < w.heap.size + 1; omega) _).more (by omega)
    · exact by_set1 (by_set1 (by_set1 B7 (by show w.heap.size ≤ w1.heap.size; omega) _) (by show w.heap.size ≤ w.heap.size + 1; omega) _) (by show w.heap.size ≤ w.heap.size + 1; omega) _
  · have b0 : (((1 : Nat) : Int) == 0) = false := by decide
    have b1 : (((1 : Nat) : Int) == 1) = true := by decide
    clear hp
    obtain ⟨k0, k1, _, _⟩ := y5.facts
    have hne : ¬ w1.heap.size = g := by omega
    have hlt1 : w1.heap.size < w3.heap.size := y5.lt
    go_wp2_with fail
    have hF0 : Dv w3 g (q + 1) [] w3 := Dv.start hr2
    refine pop_begin (S := (fun W => W.cell? ⟨w1.heap.size, 1, none⟩ = some (.slice B1 h.length d1))) (by kernel_rfl) (by kernel_rfl) (by kernel_rfl) rfl ?_ ?_
    · exact k1
    intro l last hl hlast hHeld
    simp only [List.dropLast] at hl
    simp only [List.getLast?, List.getLast, Option.some.injEq] at hlast
    subst hl
    subst hlast
    have hF := hF0.drew
    clear hF0
    generalize w3.drew = W0 at *
    refine pop_take 0 (v := ?_) rfl (by kernel_rfl) (by kernel_rfl) (by kernel_rfl) (fun _ _ _ h => h) (by rfl) (by assumption) ?_ ?_
    rotate_left 1
    · (intro W hSw; (try dsimp only at hSw); go_simp; (try with_reducible rfl))
    (try simp only [Act.put, List.setIfInBounds_toArray, List.set_cons_zero, List.set_cons_succ])
    refine pop_take 1 (v := ?_) rfl (by kernel_rfl) (by kernel_rfl) (by kernel_rfl) (fun _ _ _ h => h) (by rfl) (by assumption) ?_ ?_
    rotate_left 1
    · (intro W hSw; (try dsimp only at hSw); go_simp; (try with_reducible rfl))
    (try simp only [Act.put, List.setIfInBounds_toArray, List.set_cons_zero, List.set_cons_succ])
    refine pop_take 2 (v := ?_) rfl (by kernel_rfl) (by kernel_rfl) (by kernel_rfl) (fun _ _ _ h => h) (by rfl) (by assumption) ?_ ?_
    rotate_left 1
    · (intro W hSw; (try dsimp only at hSw); go_simp; (try with_reducible rfl))
    (try simp only [Act.put, List.setIfInBounds_toArray, List.set_cons_zero, List.set_cons_succ])
    refine pop_take 5 (v := ?_) rfl (by kernel_rfl) (by kernel_rfl) (by kernel_rfl) (fun _ _ _ h => h) (by rfl) (by assumption) ?_ ?_
    rotate_left 1
    · (intro W hSw; (try dsimp only at hSw); go_simp; (try with_reducible rfl))
    (try simp only [Act.put, List.setIfInBounds_toArray, List.set_cons_zero, List.set_cons_succ])
    repeat' (first
      | (refine pop_two 3 6 (by decide +kernel) rfl rfl (fun K hK => ?_) (fun K hK => ?_))
      | (refine pop_two 4 6 (by decide +kernel) rfl rfl (fun K hK => ?_) (fun K hK => ?_))
      | (refine pop_one 3 (by decide +kernel) rfl (fun K hK => ?_))
      | (refine pop_one 4 (by decide +kernel) rfl (fun K hK => ?_))
      | (refine pop_one 6 (by decide +kernel) rfl (fun K hK => ?_))
      | (refine pop_one 7 (by decide +kernel) rfl (fun K hK => ?_))
      | (with_reducible refine arm_in ?_; go_simp; first
          | (go_at_call 96; (with_reducible refine (hF.num _ _ _ [0, 3, 1] (by first | (simp; done) | fail) (by decide) (by decide) (by omega) (by simp) (by simp)).mono ?_); rintro e Wa ⟨⟨a, ha, rfl⟩, hF⟩; go_wp2_with fail; refine hK.out _ _ (hF.cell k1 hne) (fun hHeld => ?_); clear hK K; (try simp only [Act.put, List.setIfInBounds_toArray, List.set_cons_zero, List.set_cons_succ]))
          | (go_at_call 96; (with_reducible refine (hF.num _ _ _ [1, 9, -1] (by first | (simp; done) | fail) (by decide) (by decide) (by omega) (by simp) (by simp)).mono ?_); rintro e Wb ⟨⟨b, hb, rfl⟩, hF⟩; go_wp2_with fail; refine hK.out _ _ (hF.cell k1 hne) (fun hHeld => ?_); clear hK K; (try simp only [Act.put, List.setIfInBounds_toArray, List.set_cons_zero, List.set_cons_succ]))
          | ((with_reducible refine hF.lit [0, 3, 1] _ (by first | (simp; done) | fail) (by simp) ?_); intro Wl hF; refine hK.out _ _ (hF.cell k1 hne) (fun hHeld => ?_); clear hK K; (try simp only [Act.put, List.setIfInBounds_toArray, List.set_cons_zero, List.set_cons_succ]))
          | ((with_reducible refine hF.lit [1, 9, -1] _ (by first | (simp; done) | fail) (by simp) ?_); intro Wl hF; refine hK.out _ _ (hF.cell k1 hne) (fun hHeld => ?_); clear hK K; (try simp only [Act.put, List.setIfInBounds_toArray, List.set_cons_zero, List.set_cons_succ]))
          | fail)
      | fail)
    all_goals
      replace X := X.by_ hF.by_ (by omega)
      have z4 := y4.kept hF.by_ (by intro e; injection e with e; omega)
      have z5 := y5.kept hF.by_ (by intro e; injection e with e; omega)
      have hsF := hF.by_.size
      clear y4 y5 ha hb k0 k1
      refine pop_take 8 (v := ?_) rfl (by kernel_rfl) (by kernel_rfl) (by kernel_rfl) (fun _ _ _ h => h) (by rfl) (by assumption) ?_ ?_
      rotate_left 1
      · (intro W hSw; (try dsimp only at hSw); go_simp; (try with_reducible rfl))
      (try simp only [Act.put, List.setIfInBounds_toArray, List.set_cons_zero, List.set_cons_succ])
      refine pop_one 9 (by kernel_rfl) rfl (fun K hK => ?_)
      go_simp
      refine hK.out _ _ ?_ (fun hHeld => ?_)
      · exact (Grow.alloc (Grow.refl _) _).cell hHeld
      clear hK K
      (try simp only [Act.put, List.setIfInBounds_toArray, List.set_cons_zero, List.set_cons_succ])
      refine pop_one 10 (by kernel_rfl) rfl (fun K hK => ?_)
      (refine step_append_src _ (by rfl) (.tmp 23) (.tmp 31) 44 (by rfl) (w.heap.size + 2) 82 i1 _ 3 24 Tryd.underlying44 hj hy0 hy1 hy2 rfl (by omega) _ h.length (h.flatMap xcells) (by rfl) (own_grow (show OAtoms _ _ (.slice B1 h.length d1) h from X.o.h) (by repeat (first | exact Grow.refl _ | assumption | refine Grow.alloc ?_ _ | refine Grow.drew ?_ | refine Grow.drewN ?_ _ | refine Grow.trans ?_ (by assumption) | refine Grow.below ?_ (by assumption) (by first | exact Nat.le_refl _ | omega)))) _ 1 1 (xcells ⟨a, b, 2⟩) (by rfl) (by rfl) (Cells.block (heap_alloc_new _ _)) (xcells_one _) (by unfold maxLen; omega) (by omega) (by simp; omega) (h.length + 1) rfl ((h ++ [(⟨a, b, 2⟩ : Pl.Atm)]).flatMap xcells) (by rw [List.flatMap_append]; simp) ?_; intro A3 c3 w6 ho6 hgr6 hat6 hb6; have y6 := (z5.grow (show Grow Wb _ from (by repeat (first | exact Grow.refl _ | assumption | refine Grow.alloc ?_ _ | refine Grow.drew ?_ | refine Grow.drewN ?_ _ | refine Grow.trans ?_ (by assumption) | refine Grow.below ?_ (by assumption) (by first | exact Nat.le_refl _ | omega))))).kept hgr6 (fun e => X.bh _ e rfl); obtain ⟨j0, j1, e0, e1⟩ := y6.facts)
      refine hK.out _ _ ?_ (fun hHeld => ?_)
      · exact j1
      clear hK K
      (try simp only [Act.put, List.setIfInBounds_toArray, List.set_cons_zero, List.set_cons_succ])
      refine pop_take 11 (v := ?_) rfl (by kernel_rfl) (by kernel_rfl) (by kernel_rfl) (fun _ _ _ h => h) (by rfl) (by assumption) ?_ ?_
      rotate_left 1
      · (intro W hSw; (try dsimp only at hSw); go_simp; (try with_reducible rfl))
      (try simp only [Act.put, List.setIfInBounds_toArray, List.set_cons_zero, List.set_cons_succ])
      refine wpAnyH_done (by kernel_rfl) ?_ _
      simp only [lastPost]
      have hs6 := hb6.size
      simp only [World.size_alloc] at hs6
      have RD6 := ((hF.rd.grow (show Grow Wb _ from (by repeat (first | exact Grow.refl _ | assumption | refine Grow.alloc ?_ _ | refine Grow.drew ?_ | refine Grow.drewN ?_ _ | refine Grow.trans ?_ (by assumption) | refine Grow.below ?_ (by assumption) (by first | exact Nat.le_refl _ | omega))))).below hb6 (by omega))
      have B6 := by_below (by_grow (by_trans B2 hF.by_) (show Grow Wb _ from (by repeat (first | exact Grow.refl _ | assumption | refine Grow.alloc ?_ _ | refine Grow.drew ?_ | refine Grow.drewN ?_ _ | refine Grow.trans ?_ (by assumption) | refine Grow.below ?_ (by assumption) (by first | exact Nat.le_refl _ | omega))))) hb6 (by omega)
      have z7 := (z4.grow (show Grow Wb _ from (by repeat (first | exact Grow.refl _ | assumption | refine Grow.alloc ?_ _ | refine Grow.drew ?_ | refine Grow.drewN ?_ _ | refine Grow.trans ?_ (by assumption) | refine Grow.below ?_ (by assumption) (by first | exact Nat.le_refl _ | omega))))).bel hb6 (by omega)
      have X6 := ((X.grow (show Grow Wb (Wb.alloc (.cells #[.int .i64 a, .int .i64 b, .int .i64 2] 82)) from (by repeat (first | exact Grow.refl _ | assumption | refine Grow.alloc ?_ _ | refine Grow.drew ?_ | refine Grow.drewN ?_ _ | refine Grow.trans ?_ (by assumption) | refine Grow.below ?_ (by assumption) (by first | exact Nat.le_refl _ | omega))))).push (by simp; omega) ho6 hgr6 hat6)
      clear z4 z5 hF hgr6 hat6 hb6 ho6 X hHeld B2 hr2
      obtain ⟨p0, p1, q0, q1⟩ := z7.facts
      have hn1 : w.heap.size + 1 < w1.heap.size := by omega
      have hla : (h ++ [(⟨a, b, 2⟩ : Pl.Atm)]).length ≤ h.length + 7 := by rw [List.length_append]; simp
      go_simp
      go_wp2_with fail
      refine bodyPost_ret (v := .agg #[.slice A1 v.length c1, .slice A3 (h.length + 1) c3]) (by simp [results, Tryd.results103, go_sem, p0, p1]) rfl ⟨⟨A1, A3, c1, c3, ⟨v, h ++ [⟨a, b, 2⟩]⟩, by simp, ((((X6.far (p := ⟨w1.heap.size, 1, none⟩) rfl _).o.far (by show w.heap.size + 1 < _; omega) _).far (by show w.heap.size + 1 < _; omega) _).lo (by omega)), by show v.length ≤ v.length + 14; omega, hla⟩, ?_, ?_⟩
      · exact (rd_far (rd_far (rd_far RD6 (by show g < w1.heap.size; omega) _) (by show g < w.heap.size + 1; omega) _) (by show g < w.heap.size + 1; omega) _).more (by omega)
      · exact by_set1 (by_set1 (by_set1 B6 (by show w.heap.size ≤ w1.heap.size; omega) _) (by show w.heap.size ≤ w.heap.size + 1; omega) _) (by show w.heap.size ≤ w.heap.size + 1; omega) _
  · have b0 : (((2 : Nat) : Int) == 0) = false := by decide
    have b1 : (((2 : Nat) : Int) == 1) = false := by decide
    have b2 : (((2 : Nat) : Int) == 2) = true := by decide
    clear hp
    go_wp2_with fail
    go_loopw [] (fun wr => ∃ (z : List Pl.Atm) (A4 : Option Addr) (c4 : Nat), z.length ≤ h.length + 7 ∧ RD wr g (q + 1) ∧ w.grownBy wr (some g) ∧ w1.heap.size < wr.heap.size ∧ Box2 wr (w.heap.size + 1) 46 (.slice none 0 0) (.slice none 0 0) ∧ Box2 wr w1.heap.size 46 (.slice A1 v.length c1) (.slice A4 z.length c4) ∧ OAx wr (w.heap.size + 2) w1.heap.size A1 A4 c1 c4 ⟨v, z⟩) (fun w' => match w'.cell? ⟨w1.heap.size, 1, none⟩ with | some (.slice _ n _) => 100 - n | _ => 0)
    case atStart => exact ⟨h, B1, d1, by omega, hr2, B2, by omega, y4, y5, X⟩
    case round =>
      clear hr2 B2 y4 y5 X hs3 b0 b1 b2
      obtain ⟨z, A4, c4, hzl, hr2, B2, hs4, y4, y5, X⟩ := hrel
      have hn1 : w.heap.size + 1 < w1.heap.size := by omega
      by_cases hl6 : z.length ≤ 6
      · have hk1 : (z.length : Int) ≤ 6 := by omega
        obtain ⟨k0, k1, _, _⟩ := y5.facts
        go_wp2_with (at_builtin; go_must (refine wpList_append_src _ rfl _ _ 44 rfl (w.heap.size + 2) 82 i1 _ 3 24 Tryd.underlying44 hj hy0 hy1 hy2 rfl (by omega) _ z.length (z.flatMap xcells) rfl (own_grow (X.o.h : OAtoms _ _ _ _) (by repeat (first | exact Grow.refl _ | assumption | refine Grow.alloc ?_ _ | refine Grow.drew ?_ | refine Grow.drewN ?_ _ | refine Grow.trans ?_ (by assumption) | refine Grow.below ?_ (by assumption) (by first | exact Nat.le_refl _ | omega)))) _ 1 1 (xcells (⟨2, 1, 1⟩ : Pl.Atm)) rfl rfl (Cells.block (heap_alloc_new _ _)) (xcells_one (⟨2, 1, 1⟩ : Pl.Atm)) (by unfold maxLen; omega) (by omega) (by simp; omega) (z.length + 1) rfl ((z ++ [(⟨2, 1, 1⟩ : Pl.Atm)]).flatMap xcells) (by rw [List.flatMap_append]; simp) ?_; intro A3 c3 w6 ho6 hgr6 hat6 hb6; have y6 := (y5.grow (show Grow wr (wr.alloc _) from (by repeat (first | exact Grow.refl _ | assumption | refine Grow.alloc ?_ _ | refine Grow.drew ?_ | refine Grow.drewN ?_ _ | refine Grow.trans ?_ (by assumption) | refine Grow.below ?_ (by assumption) (by first | exact Nat.le_refl _ | omega))))).kept hgr6 (fun e => X.bh _ e rfl); obtain ⟨j0, j1, e0, e1⟩ := y6.facts))
        have hs6 := hb6.size
        simp only [World.size_alloc] at hs6
        have y7 := (y6.set1 (.slice A3 (z.length + 1) c3)).facts.2.1
        go_roundw
        case rel => exact ⟨z ++ [⟨2, 1, 1⟩], A3, c3, by rw [List.length_append]; simp; omega, rd_far ((hr2.grow (show Grow wr (wr.alloc _) from (by repeat (first | exact Grow.refl _ | assumption | refine Grow.alloc ?_ _ | refine Grow.drew ?_ | refine Grow.drewN ?_ _ | refine Grow.trans ?_ (by assumption) | refine Grow.below ?_ (by assumption) (by first | exact Nat.le_refl _ | omega))))).below hb6 (by omega)) (by show g < w1.heap.size; omega) _, by_set1 (by_below (by_grow B2 (show Grow wr (wr.alloc _) from (by repeat (first | exact Grow.refl _ | assumption | refine Grow.alloc ?_ _ | refine Grow.drew ?_ | refine Grow.drewN ?_ _ | refine Grow.trans ?_ (by assumption) | refine Grow.below ?_ (by assumption) (by first | exact Nat.le_refl _ | omega))))) hb6 (by omega)) (by show w.heap.size ≤ w1.heap.size; omega) _, by show w1.heap.size < (w6.setCell _ _).heap.size; simp [World.setCell]; omega, ((y4.grow (show Grow wr (wr.alloc _) from (by repeat (first | exact Grow.refl _ | assumption | refine Grow.alloc ?_ _ | refine Grow.drew ?_ | refine Grow.drewN ?_ _ | refine Grow.trans ?_ (by assumption) | refine Grow.below ?_ (by assumption) (by first | exact Nat.le_refl _ | omega))))).bel hb6 (by omega)).far (by show w.heap.size + 1 ≠ w1.heap.size; omega) _, by rw [List.length_append]; exact y6.set1 (.slice A3 (z.length + 1) c3), ((X.grow (show Grow wr (wr.alloc _) from (by repeat (first | exact Grow.refl _ | assumption | refine Grow.alloc ?_ _ | refine Grow.drew ?_ | refine Grow.drewN ?_ _ | refine Grow.trans ?_ (by assumption) | refine Grow.below ?_ (by assumption) (by first | exact Nat.le_refl _ | omega))))).push (by simp; omega) ho6 hgr6 hat6).far rfl _⟩
        case measure => rw [y7, k1]; simp only []; omega
      · have hk1 : (6 : Int) < (z.length : Int) := by omega
        obtain ⟨k0, k1, _, _⟩ := y5.facts
        obtain ⟨j0, j1, f0, f1⟩ := y4.facts
        go_wp2_with fail
        refine bodyPost_ret (v := .agg #[.slice A1 v.length c1, .slice A4 z.length c4]) (by simp [results, Tryd.results103, go_sem, j0, j1]) rfl ⟨⟨A1, A4, c1, c4, ⟨v, z⟩, rfl, ((X.o.far (by show w.heap.size + 1 < _; omega) _).far (by show w.heap.size + 1 < _; omega) _).lo (by omega), by show v.length ≤ v.length + 14; omega, hzl⟩, ?_, ?_⟩
        · exact (rd_far (rd_far hr2 (by show g < w.heap.size + 1; omega) _) (by show g < w.heap.size + 1; omega) _).more (by omega)
        · exact by_set1 (by_set1 B2 (by show w.heap.size ≤ w.heap.size + 1; omega) _) (by show w.heap.size ≤ w.heap.size + 1; omega) _
  · have b0 : ((p : Int) == 0) = false := by simp; omega
    have b1 : ((p : Int) == 1) = false := by simp; omega
    have b2 : ((p : Int) == 2) = false := by simp; omega
    clear h3 hp
    obtain ⟨k0, k1, _, _⟩ := y5.facts
    obtain ⟨j0, j1, f0, f1⟩ := y4.facts
    go_wp2_with fail
    refine bodyPost_ret (v := .agg #[.slice A1 v.length c1, .slice B1 h.length d1]) (by simp [results, Tryd.results103, go_sem, j0, j1]) rfl ⟨⟨A1, B1, c1, d1, ⟨v, h⟩, rfl, ((X.o.far (by show w.heap.size + 1 < _; omega) _).far (by show w.heap.size + 1 < _; omega) _).lo (by omega), by show v.length ≤ v.length + 14; omega, by show h.length ≤ h.length + 7; omega⟩, ?_, ?_⟩
    · exact (rd_far (rd_far hr2 (by show g < w.heap.size + 1; omega) _) (by show g < w.heap.size + 1; omega) _).more (by omega)
    · exact by_set1 (by_set1 B2 (by show w.heap.size ≤ w.heap.size + 1; omega) _) (by show w.heap.size ≤ w.heap.size + 1; omega) _

end Go.Proofs.YtifdefkkofngoaaDoor
