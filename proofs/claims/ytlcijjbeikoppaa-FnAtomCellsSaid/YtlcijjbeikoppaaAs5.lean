/- Contracts of conjunctions of assertions, in the program and in the reference. Conditions: the lengths are far from Go's bounds. -/
import Derived.Test.YtlcijjbeikoppaaAs4
namespace Go.Proofs.Ytlcijjbeikoppaa
open Go.RowKit
set_option linter.unusedVariables false

/-- What comes back: an assertion in new memory, and a Bool. -/
def RAs (w : World) (r : Pl.Asr × Bool) (e : Ending) (w' : World) : Prop := ∃ A B c d, e = .returned (.tuple #[asval A B c d r.1, .bool r.2]) ∧ OAs w' w.heap.size A B c d r.1 ∧ Grow w w'
theorem RAs.no {w w' : World} {r : Pl.Asr × Bool} {e : Ending} (hr : r = (Pl.noA, false)) (he : e = .returned (.tuple #[.agg #[.slice none 0 0, .slice none 0 0], .bool false])) (hg : Grow w w') : RAs w r e w' := by
  subst hr; exact ⟨none, none, 0, 0, he, OAs.emp _ _, hg⟩




set_option maxHeartbeats 4000000 in
theorem StarAssertions_c (A B A9 B9 : Option Addr) (c d c9 d9 : Nat) (s t : Pl.Asr) (w : World) (hS : Asrs w A B s) (hT : Asrs w A9 B9 t) (h1 : s.f.length ≤ 1048576) (h2 : s.a.length ≤ 1048576) (h3 : t.f.length ≤ 1048576) (h4 : t.a.length ≤ 1048576) :
    Calls Try.prog 23 #[asval A B c d s, asval A9 B9 c9 d9 t] w (RAs w (Pl.starR s t)) := by
  obtain ⟨v, h⟩ := s
  obtain ⟨v9, h9⟩ := t
  replace h1 : v.length ≤ 1048576 := h1
  replace h2 : h.length ≤ 1048576 := h2
  replace h3 : v9.length ≤ 1048576 := h3
  replace h4 : h9.length ≤ 1048576 := h4
  have y1 := Box2.new w 30 (.slice A v.length c) (.slice B h.length d)
  have y2 := Box2.new (w.alloc (.cells #[.slice A v.length c, .slice B h.length d] 30)) 30 (.slice A9 v9.length c9) (.slice B9 h9.length d9)
  have y3 := Box2.new ((w.alloc (.cells #[.slice A v.length c, .slice B h.length d] 30)).alloc (.cells #[.slice A9 v9.length c9, .slice B9 h9.length d9] 30)) 30 (.slice none 0 0) (.slice none 0 0)
  have hG : Grow w (((w.alloc (.cells #[.slice A v.length c, .slice B h.length d] 30)).alloc (.cells #[.slice A9 v9.length c9, .slice B9 h9.length d9] 30)).alloc (.cells #[.slice none 0 0, .slice none 0 0] 30)) := (by repeat (first | exact Grow.refl _ | assumption | refine Grow.alloc ?_ _ | refine Grow.drew ?_ | refine Grow.drewN ?_ _ | refine Grow.trans ?_ (by assumption) | refine Grow.below ?_ (by assumption) (by first | exact Nat.le_refl _ | omega)))
  replace y1 := y1.grow (show Grow _ (((w.alloc (.cells #[.slice A v.length c, .slice B h.length d] 30)).alloc (.cells #[.slice A9 v9.length c9, .slice B9 h9.length d9] 30)).alloc (.cells #[.slice none 0 0, .slice none 0 0] 30)) from (by repeat (first | exact Grow.refl _ | assumption | refine Grow.alloc ?_ _ | refine Grow.drew ?_ | refine Grow.drewN ?_ _ | refine Grow.trans ?_ (by assumption) | refine Grow.below ?_ (by assumption) (by first | exact Nat.le_refl _ | omega))))
  replace y2 := y2.grow (show Grow _ (((w.alloc (.cells #[.slice A v.length c, .slice B h.length d] 30)).alloc (.cells #[.slice A9 v9.length c9, .slice B9 h9.length d9] 30)).alloc (.cells #[.slice none 0 0, .slice none 0 0] 30)) from Grow.alloc (Grow.refl _) _)
  have hsz : (((w.alloc (.cells #[.slice A v.length c, .slice B h.length d] 30)).alloc (.cells #[.slice A9 v9.length c9, .slice B9 h9.length d9] 30)).alloc (.cells #[.slice none 0 0, .slice none 0 0] 30)).heap.size = w.heap.size + 1 + 1 + 1 := by simp
  simp only [World.size_alloc] at y2 y3
  have HSZ := Lib.hid hsz
  clear hsz
  go_enter Try.func23, Try.ntmps23
  obtain ⟨k0, k1, _, _⟩ := y1.facts
  go_wp2_with fail
  generalize ((w.alloc (.cells #[.slice A v.length c, .slice B h.length d] 30)).alloc (.cells #[.slice A9 v9.length c9, .slice B9 h9.length d9] 30)).alloc (.cells #[.slice none 0 0, .slice none 0 0] 30) = w0 at *
  have hS0 := hS.grow hG
  have hT0 := hT.grow hG
  refine (AssertionValid_c A B c d ⟨v, h⟩ _ hS0 (by show v.length ≤ _; omega) (by show h.length ≤ _; omega)).mono ?_
  rintro e w1 ⟨rfl, g1⟩
  clear k0 k1
  replace y1 := y1.grow g1
  replace y2 := y2.grow g1
  replace y3 := y3.grow g1
  replace hS0 := hS0.grow g1
  replace hT0 := hT0.grow g1
  replace hG := hG.trans g1
  have z1 := g1.le
  clear g1
  cases ha : Pl.asv ⟨v, h⟩ with
  | false =>
    have HX := Lib.hid (Pl.starR_1 (t := ⟨v9, h9⟩) ha)
    clear ha
    obtain ⟨j0, j1, _, _⟩ := y3.facts
    go_wp2_with fail
    refine bodyPost_ret (v := .tuple #[.agg #[.slice none 0 0, .slice none 0 0], .bool false]) (by simp [results, Try.results23, go_sem, j0, j1]) rfl (RAs.no HX.out rfl ?_)
    exact (hG.setCell (by show w.heap.size ≤ w.heap.size + 1 + 1; omega) _).setCell (by show w.heap.size ≤ w.heap.size + 1 + 1; omega) _
  | true =>
    have HA := Lib.hid ha
    clear ha
    obtain ⟨q0, q1, _, _⟩ := y2.facts
    go_wp2_with fail
    refine (AssertionValid_c A9 B9 c9 d9 ⟨v9, h9⟩ _ hT0 (by show v9.length ≤ _; omega) (by show h9.length ≤ _; omega)).mono ?_
    rintro e w2 ⟨rfl, g2⟩
    clear q0 q1
    replace y1 := y1.grow g2
    replace y2 := y2.grow g2
    replace y3 := y3.grow g2
    replace hS0 := hS0.grow g2
    replace hT0 := hT0.grow g2
    replace hG := hG.trans g2
    have z2 := g2.le
    clear g2
    cases ha : Pl.asv ⟨v9, h9⟩ with
    | false =>
      have HX := Lib.hid (Pl.starR_2 (s := ⟨v, h⟩) ha)
      clear ha
      obtain ⟨j0, j1, _, _⟩ := y3.facts
      go_wp2_with fail
      refine bodyPost_ret (v := .tuple #[.agg #[.slice none 0 0, .slice none 0 0], .bool false]) (by simp [results, Try.results23, go_sem, j0, j1]) rfl (RAs.no HX.out rfl ?_)
      exact (hG.setCell (by show w.heap.size ≤ w.heap.size + 1 + 1; omega) _).setCell (by show w.heap.size ≤ w.heap.size + 1 + 1; omega) _
    | true =>
      have HB := Lib.hid ha
      clear ha
      obtain ⟨k0, k1, _, _⟩ := y1.facts
      obtain ⟨q0, q1, _, _⟩ := y2.facts
      have IA : Facts w2 A v := hS0.v
      have IB : Atoms w2 B h := hS0.h
      have IC : Facts w2 A9 v9 := hT0.v
      have ID : Atoms w2 B9 h9 := hT0.h
      have l1 := y1.lt
      have l2 := y2.lt
      go_wp2_with fail
      go_region_held3 (fun W => W.cell? ⟨w.heap.size, 0, none⟩ = some (.slice A v.length c) ∧ W.cell? ⟨w.heap.size, 1, none⟩ = some (.slice B h.length d) ∧ W.cell? ⟨w.heap.size + 1, 0, none⟩ = some (.slice A9 v9.length c9) ∧ W.cell? ⟨w.heap.size + 1, 1, none⟩ = some (.slice B9 h9.length d9))
        (first
          | (refine ⟨?_, ?_, ?_, ?_⟩ <;> (go_keep; done))
          | exact ⟨(Grow.alloc (Grow.refl _) _).cell s0, (Grow.alloc (Grow.refl _) _).cell s1, (Grow.alloc (Grow.refl _) _).cell s2, (Grow.alloc (Grow.refl _) _).cell s3⟩
          | exact ⟨cell_far2 (by omega) s0, cell_far2 (by omega) s1, cell_far2 (by omega) s2, cell_far2 (by omega) s3⟩
          | (go_split_ands; exact ⟨g4.cell (by assumption), g4.cell (by assumption), g4.cell (by assumption), g4.cell (by assumption)⟩)
          | (go_split_ands; exact ⟨g3.cell (by assumption), g3.cell (by assumption), g3.cell (by assumption), g3.cell (by assumption)⟩)
          | (go_split_ands; exact ⟨(Grow.alloc (Grow.refl _) _).cell (by assumption), (Grow.alloc (Grow.refl _) _).cell (by assumption), (Grow.alloc (Grow.refl _) _).cell (by assumption), (Grow.alloc (Grow.refl _) _).cell (by assumption)⟩)
          | fail)
        (first
          | (go_at_call 62; (with_reducible refine (joinF_c A A9 c c9 v v9 _ (IA.grow (by repeat (first | exact Grow.refl _ | assumption | refine Grow.alloc ?_ _ | refine Grow.drew ?_ | refine Grow.drewN ?_ _ | refine Grow.trans ?_ (by assumption) | refine Grow.below ?_ (by assumption) (by first | exact Nat.le_refl _ | omega)))) (IC.grow (by repeat (first | exact Grow.refl _ | assumption | refine Grow.alloc ?_ _ | refine Grow.drew ?_ | refine Grow.drewN ?_ _ | refine Grow.trans ?_ (by assumption) | refine Grow.below ?_ (by assumption) (by first | exact Nat.le_refl _ | omega)))) (by omega) (by omega)).mono ?_); rintro e w3 ⟨A3, c3, rfl, o3, g3⟩)
          | (go_at_call 63; (with_reducible refine (joinA_c B B9 d d9 h h9 _ (IB.grow (by repeat (first | exact Grow.refl _ | assumption | refine Grow.alloc ?_ _ | refine Grow.drew ?_ | refine Grow.drewN ?_ _ | refine Grow.trans ?_ (by assumption) | refine Grow.below ?_ (by assumption) (by first | exact Nat.le_refl _ | omega)))) (ID.grow (by repeat (first | exact Grow.refl _ | assumption | refine Grow.alloc ?_ _ | refine Grow.drew ?_ | refine Grow.drewN ?_ _ | refine Grow.trans ?_ (by assumption) | refine Grow.below ?_ (by assumption) (by first | exact Nat.le_refl _ | omega)))) (by omega) (by omega)).mono ?_); rintro e w4 ⟨B4, d4, rfl, o4, g4⟩; obtain ⟨s0, s1, s2, s3⟩ : w4.cell? ⟨w.heap.size, 0, none⟩ = some (.slice A v.length c) ∧ w4.cell? ⟨w.heap.size, 1, none⟩ = some (.slice B h.length d) ∧ w4.cell? ⟨w.heap.size + 1, 0, none⟩ = some (.slice A9 v9.length c9) ∧ w4.cell? ⟨w.heap.size + 1, 1, none⟩ = some (.slice B9 h9.length d9) := (by go_split_ands; exact ⟨g4.cell (by assumption), g4.cell (by assumption), g4.cell (by assumption), g4.cell (by assumption)⟩); have z3 := g3.le; have z4 := g4.le; (try simp only [World.size_alloc, World.size_drew] at z3 z4); (first | (have yb : Box2 w4 w3.heap.size 30 (.slice none 0 0) (.slice none 0 0) := g4.heap (heap_alloc_new w3 _)) | (have yb : Box2 w4 w2.heap.size 30 (.slice none 0 0) (.slice none 0 0) := g4.heap (g3.heap (heap_alloc_new w2 _))) | skip); try (obtain ⟨j0, j1, e0, e1⟩ := yb.facts)))
      all_goals
        have b3 := own_blk o3
        have b4 := own_blk o4
        have hz := HSZ.out
        simp only [World.size_alloc, World.size_drew] at b3 b4
        have o3' := own_grow o3 (show Grow w3 w4 from (by repeat (first | exact Grow.refl _ | assumption | refine Grow.alloc ?_ _ | refine Grow.drew ?_ | refine Grow.drewN ?_ _ | refine Grow.trans ?_ (by assumption) | refine Grow.below ?_ (by assumption) (by first | exact Nat.le_refl _ | omega))))
        clear k0 k1 q0 q1 s0 s1 s2 s3
      · have oo0 : OAs (w4.alloc (.cells #[.slice A3 (v.length + v9.length) c3, .slice B4 (h.length + h9.length) d4] 30)) (w.heap.size + 1 + 1 + 1) A3 B4 c3 d4 ⟨v ++ v9, h ++ h9⟩ := (⟨ofacts_of (by rw [List.length_append]) (by show World.ownsRow _ _ _ _ (.slice _ (v ++ v9).length _) _ _; rw [List.length_append]; exact own_lo (own_grow o3' (Grow.alloc (Grow.refl _) _)) (by simp only [World.size_drew]; omega)), oatoms_of (by rw [List.length_append]) (by show World.ownsRow _ _ _ _ (.slice _ (h ++ h9).length _) _ _; rw [List.length_append]; exact own_lo (own_grow o4 (Grow.alloc (Grow.refl _) _)) (by omega)), fun k e1 e2 => by simp only [List.length_append] at e1 e2; have := b3 k e1; have := b4 k e2; omega⟩)
        have yb := Box2.new w4 30 (.slice A3 (v.length + v9.length) c3) (.slice B4 (h.length + h9.length) d4)
        have q : Grow w2 (w4.alloc (.cells #[.slice A3 (v.length + v9.length) c3, .slice B4 (h.length + h9.length) d4] 30)) := (by repeat (first | exact Grow.refl _ | assumption | refine Grow.alloc ?_ _ | refine Grow.drew ?_ | refine Grow.drewN ?_ _ | refine Grow.trans ?_ (by assumption) | refine Grow.below ?_ (by assumption) (by first | exact Nat.le_refl _ | omega)))
        replace y3 := y3.grow q
        replace hG := hG.trans q
        clear q g3 g4 o3 o4 o3' b3 b4
        generalize w4.alloc (.cells #[.slice A3 (v.length + v9.length) c3, .slice B4 (h.length + h9.length) d4] 30) = w5 at *
        have oo := oo0
        clear oo0
        have OV := Lib.hid (show (v ++ v9).length ≤ 4194304 by rw [List.length_append]; omega)
        have OH := Lib.hid (show (h ++ h9).length ≤ 4194304 by rw [List.length_append]; omega)
        obtain ⟨p0, p1, _, _⟩ := yb.facts
        have C := AssertionValid_c A3 B4 c3 d4 ⟨v ++ v9, h ++ h9⟩ w5 oo.st OV.out OH.out
        simp only [asval, List.length_append] at C
        go_wp2_with fail
        refine C.mono ?_
        rintro e w6 ⟨rfl, g6⟩
        clear C p0 p1
        replace yb := yb.grow g6
        replace y3 := y3.grow g6
        have oo := oo.grow g6
        replace hG := hG.trans g6
        clear g6
        obtain ⟨p0, p1, _, _⟩ := yb.facts
        obtain ⟨j0, j1, _, _⟩ := y3.facts
        cases ha : Pl.asv ⟨v ++ v9, h ++ h9⟩ with
        | false =>
          have HX := Lib.hid (Pl.starR_3 (s := ⟨v, h⟩) (t := ⟨v9, h9⟩) ha)
          clear ha
          go_wp2_with fail
          refine bodyPost_ret (v := .tuple #[.agg #[.slice none 0 0, .slice none 0 0], .bool false]) (by simp [results, Try.results23, go_sem, j0, j1]) rfl (RAs.no HX.out rfl ?_)
          exact (hG.setCell (by show w.heap.size ≤ w.heap.size + 1 + 1; omega) _).setCell (by show w.heap.size ≤ w.heap.size + 1 + 1; omega) _
        | true =>
          have HX := Lib.hid (Pl.starR_ok (s := ⟨v, h⟩) (t := ⟨v9, h9⟩) HA.out HB.out ha)
          clear ha
          go_wp2_with fail
          refine bodyPost_ret (v := .tuple #[.agg #[.slice A3 (v.length + v9.length) c3, .slice B4 (h.length + h9.length) d4], .bool true]) (by simp [results, Try.results23, go_sem, j0, j1]) rfl ?_
          rw [HX.out]
          refine ⟨A3, B4, c3, d4, by simp [Pl.join], ?_, ?_⟩
          · exact ((oo.far (by show w.heap.size + 1 + 1 < w.heap.size + 1 + 1 + 1; omega) _).far (by show w.heap.size + 1 + 1 < w.heap.size + 1 + 1 + 1; omega) _).lo (by omega)
          · exact (hG.setCell (by show w.heap.size ≤ w.heap.size + 1 + 1; omega) _).setCell (by show w.heap.size ≤ w.heap.size + 1 + 1; omega) _
      · have oo0 : OAs ((w4.setCell ⟨w3.heap.size, 0, none⟩ (.slice A3 (v.length + v9.length) c3)).setCell ⟨w3.heap.size, 1, none⟩ (.slice B4 (h.length + h9.length) d4)) (w.heap.size + 1 + 1 + 1) A3 B4 c3 d4 ⟨v ++ v9, h ++ h9⟩ := (⟨ofacts_of (by rw [List.length_append]) (by show World.ownsRow _ _ _ _ (.slice _ (v ++ v9).length _) _ _; rw [List.length_append]; exact own_lo (own_far (own_far o3' (fun k hk => by have := b3 k hk; show w3.heap.size ≠ k; omega) _) (fun k hk => by have := b3 k hk; show w3.heap.size ≠ k; omega) _) (by simp only [World.size_drew]; omega)), oatoms_of (by rw [List.length_append]) (by show World.ownsRow _ _ _ _ (.slice _ (h ++ h9).length _) _ _; rw [List.length_append]; exact own_lo (own_far (own_far o4 (fun k hk => by have := b4 k hk; show w3.heap.size ≠ k; omega) _) (fun k hk => by have := b4 k hk; show w3.heap.size ≠ k; omega) _) (by simp only [World.size_alloc]; omega)), fun k e1 e2 => by simp only [List.length_append] at e1 e2; have := b3 k e1; have := b4 k e2; omega⟩)
        have yb := (yb.set0 (.slice A3 (v.length + v9.length) c3)).set1 (.slice B4 (h.length + h9.length) d4)
        have q : Grow w2 ((w4.setCell ⟨w3.heap.size, 0, none⟩ (.slice A3 (v.length + v9.length) c3)).setCell ⟨w3.heap.size, 1, none⟩ (.slice B4 (h.length + h9.length) d4)) := (Grow.setCell (Grow.setCell (by repeat (first | exact Grow.refl _ | assumption | refine Grow.alloc ?_ _ | refine Grow.drew ?_ | refine Grow.drewN ?_ _ | refine Grow.trans ?_ (by assumption) | refine Grow.below ?_ (by assumption) (by first | exact Nat.le_refl _ | omega))) (by show w2.heap.size ≤ w3.heap.size; omega) _) (by show w2.heap.size ≤ w3.heap.size; omega) _)
        replace y3 := y3.grow q
        replace hG := hG.trans q
        clear q g3 g4 o3 o4 o3' b3 b4 j0 j1 e0 e1
        generalize (w4.setCell ⟨w3.heap.size, 0, none⟩ (.slice A3 (v.length + v9.length) c3)).setCell ⟨w3.heap.size, 1, none⟩ (.slice B4 (h.length + h9.length) d4) = w5 at *
        have oo := oo0
        clear oo0
        have OV := Lib.hid (show (v ++ v9).length ≤ 4194304 by rw [List.length_append]; omega)
        have OH := Lib.hid (show (h ++ h9).length ≤ 4194304 by rw [List.length_append]; omega)
        obtain ⟨p0, p1, _, _⟩ := yb.facts
        have C := AssertionValid_c A3 B4 c3 d4 ⟨v ++ v9, h ++ h9⟩ w5 oo.st OV.out OH.out
        simp only [asval, List.length_append] at C
        go_wp2_with fail
        refine C.mono ?_
        rintro e w6 ⟨rfl, g6⟩
        clear C p0 p1
        replace yb := yb.grow g6
        replace y3 := y3.grow g6
        have oo := oo.grow g6
        replace hG := hG.trans g6
        clear g6
        obtain ⟨p0, p1, _, _⟩ := yb.facts
        obtain ⟨j0, j1, _, _⟩ := y3.facts
        cases ha : Pl.asv ⟨v ++ v9, h ++ h9⟩ with
        | false =>
          have HX := Lib.hid (Pl.starR_3 (s := ⟨v, h⟩) (t := ⟨v9, h9⟩) ha)
          clear ha
          go_wp2_with fail
          refine bodyPost_ret (v := .tuple #[.agg #[.slice none 0 0, .slice none 0 0], .bool false]) (by simp [results, Try.results23, go_sem, j0, j1]) rfl (RAs.no HX.out rfl ?_)
          exact (hG.setCell (by show w.heap.size ≤ w.heap.size + 1 + 1; omega) _).setCell (by show w.heap.size ≤ w.heap.size + 1 + 1; omega) _
        | true =>
          have HX := Lib.hid (Pl.starR_ok (s := ⟨v, h⟩) (t := ⟨v9, h9⟩) HA.out HB.out ha)
          clear ha
          go_wp2_with fail
          refine bodyPost_ret (v := .tuple #[.agg #[.slice A3 (v.length + v9.length) c3, .slice B4 (h.length + h9.length) d4], .bool true]) (by simp [results, Try.results23, go_sem, j0, j1]) rfl ?_
          rw [HX.out]
          refine ⟨A3, B4, c3, d4, by simp [Pl.join], ?_, ?_⟩
          · exact ((oo.far (by show w.heap.size + 1 + 1 < w.heap.size + 1 + 1 + 1; omega) _).far (by show w.heap.size + 1 + 1 < w.heap.size + 1 + 1 + 1; omega) _).lo (by omega)
          · exact (hG.setCell (by show w.heap.size ≤ w.heap.size + 1 + 1; omega) _).setCell (by show w.heap.size ≤ w.heap.size + 1 + 1; omega) _
      · have oo0 : OAs ((w4.setCell ⟨w2.heap.size, 0, none⟩ (.slice A3 (v.length + v9.length) c3)).setCell ⟨w2.heap.size, 1, none⟩ (.slice B4 (h.length + h9.length) d4)) (w.heap.size + 1 + 1 + 1) A3 B4 c3 d4 ⟨v ++ v9, h ++ h9⟩ := (⟨ofacts_of (by rw [List.length_append]) (by show World.ownsRow _ _ _ _ (.slice _ (v ++ v9).length _) _ _; rw [List.length_append]; exact own_lo (own_far (own_far o3' (fun k hk => by have := b3 k hk; show w2.heap.size ≠ k; omega) _) (fun k hk => by have := b3 k hk; show w2.heap.size ≠ k; omega) _) (by simp only [World.size_alloc, World.size_drew]; omega)), oatoms_of (by rw [List.length_append]) (by show World.ownsRow _ _ _ _ (.slice _ (h ++ h9).length _) _ _; rw [List.length_append]; exact own_lo (own_far (own_far o4 (fun k hk => by have := b4 k hk; show w2.heap.size ≠ k; omega) _) (fun k hk => by have := b4 k hk; show w2.heap.size ≠ k; omega) _) (by omega)), fun k e1 e2 => by simp only [List.length_append] at e1 e2; have := b3 k e1; have := b4 k e2; omega⟩)
        have yb := (yb.set0 (.slice A3 (v.length + v9.length) c3)).set1 (.slice B4 (h.length + h9.length) d4)
        have q : Grow w2 ((w4.setCell ⟨w2.heap.size, 0, none⟩ (.slice A3 (v.length + v9.length) c3)).setCell ⟨w2.heap.size, 1, none⟩ (.slice B4 (h.length + h9.length) d4)) := (Grow.setCell (Grow.setCell (by repeat (first | exact Grow.refl _ | assumption | refine Grow.alloc ?_ _ | refine Grow.drew ?_ | refine Grow.drewN ?_ _ | refine Grow.trans ?_ (by assumption) | refine Grow.below ?_ (by assumption) (by first | exact Nat.le_refl _ | omega))) (Nat.le_refl _) _) (Nat.le_refl _) _)
        replace y3 := y3.grow q
        replace hG := hG.trans q
        clear q g3 g4 o3 o4 o3' b3 b4 j0 j1 e0 e1
        generalize (w4.setCell ⟨w2.heap.size, 0, none⟩ (.slice A3 (v.length + v9.length) c3)).setCell ⟨w2.heap.size, 1, none⟩ (.slice B4 (h.length + h9.length) d4) = w5 at *
        have oo := oo0
        clear oo0
        have OV := Lib.hid (show (v ++ v9).length ≤ 4194304 by rw [List.length_append]; omega)
        have OH := Lib.hid (show (h ++ h9).length ≤ 4194304 by rw [List.length_append]; omega)
        obtain ⟨p0, p1, _, _⟩ := yb.facts
        have C := AssertionValid_c A3 B4 c3 d4 ⟨v ++ v9, h ++ h9⟩ w5 oo.st OV.out OH.out
        simp only [asval, List.length_append] at C
        go_wp2_with fail
        refine C.mono ?_
        rintro e w6 ⟨rfl, g6⟩
        clear C p0 p1
        replace yb := yb.grow g6
        replace y3 := y3.grow g6
        have oo := oo.grow g6
        replace hG := hG.trans g6
        clear g6
        obtain ⟨p0, p1, _, _⟩ := yb.facts
        obtain ⟨j0, j1, _, _⟩ := y3.facts
        cases ha : Pl.asv ⟨v ++ v9, h ++ h9⟩ with
        | false =>
          have HX := Lib.hid (Pl.starR_3 (s := ⟨v, h⟩) (t := ⟨v9, h9⟩) ha)
          clear ha
          go_wp2_with fail
          refine bodyPost_ret (v := .tuple #[.agg #[.slice none 0 0, .slice none 0 0], .bool false]) (by simp [results, Try.results23, go_sem, j0, j1]) rfl (RAs.no HX.out rfl ?_)
          exact (hG.setCell (by show w.heap.size ≤ w.heap.size + 1 + 1; omega) _).setCell (by show w.heap.size ≤ w.heap.size + 1 + 1; omega) _
        | true =>
          have HX := Lib.hid (Pl.starR_ok (s := ⟨v, h⟩) (t := ⟨v9, h9⟩) HA.out HB.out ha)
          clear ha
          go_wp2_with fail
          refine bodyPost_ret (v := .tuple #[.agg #[.slice A3 (v.length + v9.length) c3, .slice B4 (h.length + h9.length) d4], .bool true]) (by simp [results, Try.results23, go_sem, j0, j1]) rfl ?_
          rw [HX.out]
          refine ⟨A3, B4, c3, d4, by simp [Pl.join], ?_, ?_⟩
          · exact ((oo.far (by show w.heap.size + 1 + 1 < w.heap.size + 1 + 1 + 1; omega) _).far (by show w.heap.size + 1 + 1 < w.heap.size + 1 + 1 + 1; omega) _).lo (by omega)
          · exact (hG.setCell (by show w.heap.size ≤ w.heap.size + 1 + 1; omega) _).setCell (by show w.heap.size ≤ w.heap.size + 1 + 1; omega) _

theorem l3Copy_c (A B : Option Addr) (c d : Nat) (s : Pl.Asr) (w : World) (hS : Asrs w A B s) (h1 : s.f.length ≤ 4194304) (h2 : s.a.length ≤ 4194304) :
    Calls Try.prog 76 #[asval A B c d s] w fun e w' => ∃ A' B' c' d', e = .returned (asval A' B' c' d' s) ∧ OAs w' w.heap.size A' B' c' d' s ∧ Grow w w' := by
  obtain ⟨v, h⟩ := s
  replace h1 : v.length ≤ 4194304 := h1
  replace h2 : h.length ≤ 4194304 := h2
  have y1 := Box2.new w 30 (.slice A v.length c) (.slice B h.length d)
  have y2 := Box2.new (w.alloc (.cells #[.slice A v.length c, .slice B h.length d] 30)) 30 (.slice none 0 0) (.slice none 0 0)
  have hG : Grow w ((w.alloc (.cells #[.slice A v.length c, .slice B h.length d] 30)).alloc (.cells #[.slice none 0 0, .slice none 0 0] 30)) := (by repeat (first | exact Grow.refl _ | assumption | refine Grow.alloc ?_ _ | refine Grow.drew ?_ | refine Grow.drewN ?_ _ | refine Grow.trans ?_ (by assumption) | refine Grow.below ?_ (by assumption) (by first | exact Nat.le_refl _ | omega)))
  replace y1 := y1.grow (show Grow _ ((w.alloc (.cells #[.slice A v.length c, .slice B h.length d] 30)).alloc (.cells #[.slice none 0 0, .slice none 0 0] 30)) from (by repeat (first | exact Grow.refl _ | assumption | refine Grow.alloc ?_ _ | refine Grow.drew ?_ | refine Grow.drewN ?_ _ | refine Grow.trans ?_ (by assumption) | refine Grow.below ?_ (by assumption) (by first | exact Nat.le_refl _ | omega))))
  have hsz : ((w.alloc (.cells #[.slice A v.length c, .slice B h.length d] 30)).alloc (.cells #[.slice none 0 0, .slice none 0 0] 30)).heap.size = w.heap.size + 1 + 1 := by simp
  simp only [World.size_alloc] at y2
  have HSZ := Lib.hid hsz
  clear hsz
  go_enter Try.func76, Try.ntmps76
  obtain ⟨k0, k1, _, _⟩ := y1.facts
  go_wp2_with fail
  generalize (w.alloc (.cells #[.slice A v.length c, .slice B h.length d] 30)).alloc (.cells #[.slice none 0 0, .slice none 0 0] 30) = w0 at *
  have hS0 := hS.grow hG
  have C := l3Star_c A B none none c d 0 0 ⟨v, h⟩ Pl.noA w0 hS0 ⟨Facts.nil _ _, Atoms.nil _ _⟩ h1 h2 (by simp) (by simp)
  rw [Pl.join_nil] at C
  refine C.mono ?_
  rintro e w1 ⟨A1, B1, c1, d1, rfl, o1, g1⟩
  clear C k0 k1
  replace y2 := y2.grow g1
  have hlt := y2.lt
  replace hG := hG.trans g1
  have hz := HSZ.out
  clear g1
  obtain ⟨j0, j1, _, _⟩ := y2.facts
  go_wp2_with fail
  refine bodyPost_ret (v := .agg #[.slice A1 v.length c1, .slice B1 h.length d1]) (by simp [results, Try.results76, go_sem, j0, j1]) rfl ?_
  refine ⟨A1, B1, c1, d1, rfl, ?_, ?_⟩
  · exact ((o1.far (by show w.heap.size + 1 < _; omega) _).far (by show w.heap.size + 1 < _; omega) _).lo (by omega)
  · exact (hG.setCell (by show w.heap.size ≤ w.heap.size + 1; omega) _).setCell (by show w.heap.size ≤ w.heap.size + 1; omega) _

end Go.Proofs.Ytlcijjbeikoppaa
