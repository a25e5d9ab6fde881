/- The draw of the arguments of joining. No conditions. -/
import Derived.Test.YtcipmmieiafpbaaDrawK
import Derived.Deep.DeepCutAuto
namespace Go.Proofs.Ytcipmmieiafpbaa
open Go.RowKit
set_option linter.unusedVariables false


/-- Two states were drawn. -/
def DrawnJ (w : World) (e : Ending) (w' : World) : Prop := ∃ A B c d v h A9 B9 c9 d9 v9 h9, e = .returned (.tuple #[sval A B c d ⟨v, h⟩, sval A9 B9 c9 d9 ⟨v9, h9⟩]) ∧ Sts w' A B ⟨v, h⟩ ∧ Sts w' A9 B9 ⟨v9, h9⟩ ∧ (v.length ≤ 9 ∧ h.length ≤ 9) ∧ (v9.length ≤ 9 ∧ h9.length ≤ 9) ∧ Grow w w'

set_option maxRecDepth 100000 in
set_option maxHeartbeats 3200000 in
theorem DrawJoinStates_c (A : Option Addr) (n c : Nat) (w : World) (hb : Bytes w A n) (hn : n ≤ 9223372036854775807) (hc : n ≤ c) :
    Calls Try.prog 41 #[.slice A n c] w (DrawnJ w) := by
  have y0 := (Box2.new w 30 (.slice none 0 0) (.slice none 0 0)).grow (show Grow _ ((w.alloc (.cells #[.slice none 0 0, .slice none 0 0] 30)).alloc (.cells #[.slice none 0 0, .slice none 0 0] 30)) from Grow.alloc (Grow.refl _) _)
  have y1 := Box2.new (w.alloc (.cells #[.slice none 0 0, .slice none 0 0] 30)) 30 (.slice none 0 0) (.slice none 0 0)
  simp only [World.size_alloc] at y1
  have G : Grow w ((w.alloc (.cells #[.slice none 0 0, .slice none 0 0] 30)).alloc (.cells #[.slice none 0 0, .slice none 0 0] 30)) := (by repeat (first | exact Grow.refl _ | assumption | refine Grow.alloc ?_ _ | refine Grow.drew ?_ | refine Grow.drewN ?_ _ | refine Grow.trans ?_ (by assumption) | refine Grow.below ?_ (by assumption) (by first | exact Nat.le_refl _ | omega)))
  have hz : ((w.alloc (.cells #[.slice none 0 0, .slice none 0 0] 30)).alloc (.cells #[.slice none 0 0, .slice none 0 0] 30)).heap.size = w.heap.size + 2 := by simp
  go_enter Try.func41, Try.ntmps41
  go_wp2_with fail
  generalize (w.alloc (.cells #[.slice none 0 0, .slice none 0 0] 30)).alloc (.cells #[.slice none 0 0, .slice none 0 0] 30) = w0 at *
  refine (DrawKeepCells_c A n c _ (hb.grow G) hn hc).mono ?_
  rintro e w1 ⟨A1, B1, c1, d1, v, h, A9, c9, l, rfl, oS, ⟨hv8, hh9⟩, I, hll, g1⟩
  have S := oS.st
  have zs1 := g1.le
  have y4 := Box2.new w1 30 (.slice A1 v.length c1) (.slice B1 h.length d1)
  have b1 := Pl.keepR_len ⟨v, h⟩ l (n := 9) (by show v.length ≤ 9; omega) (by show h.length ≤ 9; omega)
  have b2 := Pl.dropR_len ⟨v, h⟩ l (n := 9) (by show v.length ≤ 9; omega) (by show h.length ≤ 9; omega)
  have CK := Lib.hid (sKeepCells_c A1 B1 A9 c1 d1 c9 ⟨v, h⟩ l (w1.alloc (.cells #[.slice A1 v.length c1, .slice B1 h.length d1] 30)) (S.grow (by repeat (first | exact Grow.refl _ | assumption | refine Grow.alloc ?_ _ | refine Grow.drew ?_ | refine Grow.drewN ?_ _ | refine Grow.trans ?_ (by assumption) | refine Grow.below ?_ (by assumption) (by first | exact Nat.le_refl _ | omega)))) (I.grow (by repeat (first | exact Grow.refl _ | assumption | refine Grow.alloc ?_ _ | refine Grow.drew ?_ | refine Grow.drewN ?_ _ | refine Grow.trans ?_ (by assumption) | refine Grow.below ?_ (by assumption) (by first | exact Nat.le_refl _ | omega)))) (by show v.length ≤ _; omega) (by show h.length ≤ _; omega) (by omega))
  have CD := Lib.hid (fun (W : World) (k : Grow w1 W) => sDropCells_c A1 B1 A9 c1 d1 c9 ⟨v, h⟩ l W (S.grow k) (I.grow k) (by show v.length ≤ _; omega) (by show h.length ≤ _; omega) (by omega))
  generalize Pl.keepR ⟨v, h⟩ l = r1 at *
  generalize Pl.dropR ⟨v, h⟩ l = r2 at *
  obtain ⟨⟨kv, kh⟩, kb⟩ := r1
  obtain ⟨⟨dv, dh⟩, db⟩ := r2
  obtain ⟨l1, l2⟩ : kv.length ≤ 9 ∧ kh.length ≤ 9 := b1
  obtain ⟨l3, l4⟩ : dv.length ≤ 9 ∧ dh.length ≤ 9 := b2
  go_wp2_with fail
  refine CK.out.mono ?_
  rintro e w2 ⟨A2, B2, c2, d2, rfl, o2, g2⟩
  have q : Grow w1 w2 := (by repeat (first | exact Grow.refl _ | assumption | refine Grow.alloc ?_ _ | refine Grow.drew ?_ | refine Grow.drewN ?_ _ | refine Grow.trans ?_ (by assumption) | refine Grow.below ?_ (by assumption) (by first | exact Nat.le_refl _ | omega)))
  replace y0 := y0.grow (g1.trans q)
  replace y1 := y1.grow (g1.trans q)
  replace y4 := y4.grow g2
  replace G := G.trans (g1.trans q)
  have K := o2
  have S2 := oS.grow q
  have zs2 := g2.le
  simp only [World.size_alloc] at zs2
  have y6 := Box2.new w2 30 (.slice A2 kv.length c2) (.slice B2 kh.length d2)
  have q6 : Grow w2 (w2.alloc (.cells #[.slice A2 kv.length c2, .slice B2 kh.length d2] 30)) := (by repeat (first | exact Grow.refl _ | assumption | refine Grow.alloc ?_ _ | refine Grow.drew ?_ | refine Grow.drewN ?_ _ | refine Grow.trans ?_ (by assumption) | refine Grow.below ?_ (by assumption) (by first | exact Nat.le_refl _ | omega)))
  have C3 := CD.out _ (q.trans q6)
  replace y4 := y4.grow q6
  clear q g1 g2 o2 CK CD S oS
  obtain ⟨k0, k1, _, _⟩ := y4.facts
  go_wp2_with fail
  refine C3.mono ?_
  rintro e w3 ⟨A3, B3, c3, d3, rfl, o3, g3⟩
  clear C3 k0 k1
  have D := o3
  have zs3 := g3.le
  simp only [World.size_alloc] at zs3
  have y8 := Box2.new w3 30 (.slice A3 dv.length c3) (.slice B3 dh.length d3)
  have q8 : Grow w3 (w3.alloc (.cells #[.slice A3 dv.length c3, .slice B3 dh.length d3] 30)) := (by repeat (first | exact Grow.refl _ | assumption | refine Grow.alloc ?_ _ | refine Grow.drew ?_ | refine Grow.drewN ?_ _ | refine Grow.trans ?_ (by assumption) | refine Grow.below ?_ (by assumption) (by first | exact Nat.le_refl _ | omega)))
  have q9 : Grow w2 (w3.alloc (.cells #[.slice A3 dv.length c3, .slice B3 dh.length d3] 30)) := (q6.trans g3).trans q8
  replace y0 := y0.grow q9
  replace y1 := y1.grow q9
  replace y4 := y4.grow (g3.trans q8)
  replace y6 := y6.grow (g3.trans q8)
  replace K := K.grow q9
  replace S2 := S2.grow q9
  replace D := D.grow q8
  replace G := G.trans q9
  have hz9 : w.heap.size + 2 ≤ (w3.alloc (.cells #[.slice A3 dv.length c3, .slice B3 dh.length d3] 30)).heap.size := by simp; omega
  clear q8 q9 q6 g3 o3
  simp only [World.size_alloc] at K D
  go_wp2_with fail
  all_goals generalize w3.alloc (.cells #[.slice A3 dv.length c3, .slice B3 dh.length d3] 30) = w4 at *
  · obtain ⟨k0, k1, _, _⟩ := y4.facts
    obtain ⟨q0, q1, _, _⟩ := y6.facts
    obtain ⟨j0, j1, _, _⟩ := y0.facts
    obtain ⟨i0, i1, _, _⟩ := y1.facts
    have n1 := y4.lt
    have n2 := y6.lt
    go_cut [] (fun wx => Box2 wx w.heap.size 30 (.slice A1 v.length c1) (.slice B1 h.length d1) ∧ Box2 wx (w.heap.size + 1) 30 (.slice A2 kv.length c2) (.slice B2 kh.length d2) ∧ OSt wx (w.heap.size + 2) A1 B1 c1 d1 ⟨v, h⟩ ∧ OSt wx (w.heap.size + 2) A2 B2 c2 d2 ⟨kv, kh⟩ ∧ Grow w wx)
    case first =>
      first | (go_region_with (fail)) | fail
      all_goals
        go_wp2_with fail
        go_meet
        case rel =>
          have hd : ∀ W : World, Grow W W.drew := fun W => (by repeat (first | exact Grow.refl _ | assumption | refine Grow.alloc ?_ _ | refine Grow.drew ?_ | refine Grow.drewN ?_ _ | refine Grow.trans ?_ (by assumption) | refine Grow.below ?_ (by assumption) (by first | exact Nat.le_refl _ | omega)))
          have ha := S2.lo (show w.heap.size + 2 ≤ _ by omega)
          have hb' := K.lo (show w.heap.size + 2 ≤ _ by omega)
          first
            | exact ⟨((((y0.set0 _).set1 _).far (by show w.heap.size ≠ w.heap.size + 1; omega) _).far (by show w.heap.size ≠ w.heap.size + 1; omega) _).grow (hd _), ((((y1.far (by show w.heap.size + 1 ≠ w.heap.size; omega) _).far (by show w.heap.size + 1 ≠ w.heap.size; omega) _).set0 _).set1 _).grow (hd _), ((((ha.far (by show w.heap.size < _; omega) _).far (by show w.heap.size < _; omega) _).far (by show w.heap.size + 1 < _; omega) _).far (by show w.heap.size + 1 < _; omega) _).grow (hd _), ((((hb'.far (by show w.heap.size < _; omega) _).far (by show w.heap.size < _; omega) _).far (by show w.heap.size + 1 < _; omega) _).far (by show w.heap.size + 1 < _; omega) _).grow (hd _), ((((G.setCell (Nat.le_refl _) _).setCell (Nat.le_refl _) _).setCell (Nat.le_succ _) _).setCell (Nat.le_succ _) _).drew⟩
            | exact ⟨((((y0.far (by show w.heap.size ≠ w.heap.size + 1; omega) _).far (by show w.heap.size ≠ w.heap.size + 1; omega) _).set0 _).set1 _).grow (hd _), ((((y1.set0 _).set1 _).far (by show w.heap.size + 1 ≠ w.heap.size; omega) _).far (by show w.heap.size + 1 ≠ w.heap.size; omega) _).grow (hd _), ((((ha.far (by show w.heap.size + 1 < _; omega) _).far (by show w.heap.size + 1 < _; omega) _).far (by show w.heap.size < _; omega) _).far (by show w.heap.size < _; omega) _).grow (hd _), ((((hb'.far (by show w.heap.size + 1 < _; omega) _).far (by show w.heap.size + 1 < _; omega) _).far (by show w.heap.size < _; omega) _).far (by show w.heap.size < _; omega) _).grow (hd _), ((((G.setCell (Nat.le_succ _) _).setCell (Nat.le_succ _) _).setCell (Nat.le_refl _) _).setCell (Nat.le_refl _) _).drew⟩
    case rest =>
      obtain ⟨y0, y1, oa, ob, G⟩ := hcut
      obtain ⟨j0, j1, _, _⟩ := y0.facts
      obtain ⟨i0, i1, _, _⟩ := y1.facts
      go_wp2_with fail
      refine bodyPost_ret (v := .tuple #[sval A1 B1 c1 d1 ⟨v, h⟩, sval A2 B2 c2 d2 ⟨kv, kh⟩]) (by simp [results, Try.results41, go_sem, j0, j1, i0, i1]) rfl ⟨_, _, _, _, _, _, _, _, _, _, _, _, rfl, oa.st, ob.st, ⟨by omega, by omega⟩, ⟨by omega, by omega⟩, G⟩
  · obtain ⟨k0, k1, _, _⟩ := y6.facts
    obtain ⟨q0, q1, _, _⟩ := y8.facts
    obtain ⟨j0, j1, _, _⟩ := y0.facts
    obtain ⟨i0, i1, _, _⟩ := y1.facts
    have n1 := y6.lt
    have n2 := y8.lt
    go_cut [] (fun wx => Box2 wx w.heap.size 30 (.slice A2 kv.length c2) (.slice B2 kh.length d2) ∧ Box2 wx (w.heap.size + 1) 30 (.slice A3 dv.length c3) (.slice B3 dh.length d3) ∧ OSt wx (w.heap.size + 2) A2 B2 c2 d2 ⟨kv, kh⟩ ∧ OSt wx (w.heap.size + 2) A3 B3 c3 d3 ⟨dv, dh⟩ ∧ Grow w wx)
    case first =>
      first | (go_region_with (fail)) | fail
      all_goals
        go_wp2_with fail
        go_meet
        case rel =>
          have hd : ∀ W : World, Grow W W.drew := fun W => (by repeat (first | exact Grow.refl _ | assumption | refine Grow.alloc ?_ _ | refine Grow.drew ?_ | refine Grow.drewN ?_ _ | refine Grow.trans ?_ (by assumption) | refine Grow.below ?_ (by assumption) (by first | exact Nat.le_refl _ | omega)))
          have ha := K.lo (show w.heap.size + 2 ≤ _ by omega)
          have hb' := D.lo (show w.heap.size + 2 ≤ _ by omega)
          first
            | exact ⟨((((y0.set0 _).set1 _).far (by show w.heap.size ≠ w.heap.size + 1; omega) _).far (by show w.heap.size ≠ w.heap.size + 1; omega) _).grow (hd _), ((((y1.far (by show w.heap.size + 1 ≠ w.heap.size; omega) _).far (by show w.heap.size + 1 ≠ w.heap.size; omega) _).set0 _).set1 _).grow (hd _), ((((ha.far (by show w.heap.size < _; omega) _).far (by show w.heap.size < _; omega) _).far (by show w.heap.size + 1 < _; omega) _).far (by show w.heap.size + 1 < _; omega) _).grow (hd _), ((((hb'.far (by show w.heap.size < _; omega) _).far (by show w.heap.size < _; omega) _).far (by show w.heap.size + 1 < _; omega) _).far (by show w.heap.size + 1 < _; omega) _).grow (hd _), ((((G.setCell (Nat.le_refl _) _).setCell (Nat.le_refl _) _).setCell (Nat.le_succ _) _).setCell (Nat.le_succ _) _).drew⟩
            | exact ⟨((((y0.far (by show w.heap.size ≠ w.heap.size + 1; omega) _).far (by show w.heap.size ≠ w.heap.size + 1; omega) _).set0 _).set1 _).grow (hd _), ((((y1.set0 _).set1 _).far (by show w.heap.size + 1 ≠ w.heap.size; omega) _).far (by show w.heap.size + 1 ≠ w.heap.size; omega) _).grow (hd _), ((((ha.far (by show w.heap.size + 1 < _; omega) _).far (by show w.heap.size + 1 < _; omega) _).far (by show w.heap.size < _; omega) _).far (by show w.heap.size < _; omega) _).grow (hd _), ((((hb'.far (by show w.heap.size + 1 < _; omega) _).far (by show w.heap.size + 1 < _; omega) _).far (by show w.heap.size < _; omega) _).far (by show w.heap.size < _; omega) _).grow (hd _), ((((G.setCell (Nat.le_succ _) _).setCell (Nat.le_succ _) _).setCell (Nat.le_refl _) _).setCell (Nat.le_refl _) _).drew⟩
    case rest =>
      obtain ⟨y0, y1, oa, ob, G⟩ := hcut
      obtain ⟨j0, j1, _, _⟩ := y0.facts
      obtain ⟨i0, i1, _, _⟩ := y1.facts
      go_wp2_with fail
      refine bodyPost_ret (v := .tuple #[sval A2 B2 c2 d2 ⟨kv, kh⟩, sval A3 B3 c3 d3 ⟨dv, dh⟩]) (by simp [results, Try.results41, go_sem, j0, j1, i0, i1]) rfl ⟨_, _, _, _, _, _, _, _, _, _, _, _, rfl, oa.st, ob.st, ⟨by omega, by omega⟩, ⟨by omega, by omega⟩, G⟩

end Go.Proofs.Ytcipmmieiafpbaa
