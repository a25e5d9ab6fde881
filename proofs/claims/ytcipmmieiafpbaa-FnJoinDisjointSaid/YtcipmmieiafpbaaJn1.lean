/- Joining two states in the program, where it fails. Conditions: the lengths are far from Go's bounds. -/
import Derived.Test.YtcipmmieiafpbaaJn0
namespace Go.Proofs.Ytcipmmieiafpbaa
open Go.RowKit
set_option linter.unusedVariables false

set_option maxRecDepth 100000 in
set_option maxHeartbeats 3200000 in
theorem JoinStates_no (A B A9 B9 : Option Addr) (c d c9 d9 : Nat) (s t : Pl.St) (w : World) (hS : Sts w A B s) (hT : Sts w A9 B9 t) (h1 : s.v.length ≤ 4194304) (h2 : s.h.length ≤ 4194304) (h3 : t.v.length ≤ 4194304) (h4 : t.h.length ≤ 4194304) (h0 : Pl.joinOk s t = false) :
    Calls Try.prog 29 #[sval A B c d s, sval A9 B9 c9 d9 t] w (RSt w (Pl.joinS s t)) := by
  have H0 := Lib.hid h0
  clear h0
  obtain ⟨v, h⟩ := s
  obtain ⟨v9, h9⟩ := t
  replace h1 : v.length ≤ 4194304 := h1
  replace h2 : h.length ≤ 4194304 := h2
  replace h3 : v9.length ≤ 4194304 := h3
  replace h4 : h9.length ≤ 4194304 := h4
  have y1 := Box2.new w 30 (.slice A v.length c) (.slice B h.length d)
  have y2 := Box2.new (w.alloc (.cells #[.slice A v.length c, .slice B h.length d] 30)) 30 (.slice A9 v9.length c9) (.slice B9 h9.length d9)
  have y3 := Box2.new ((w.alloc (.cells #[.slice A v.length c, .slice B h.length d] 30)).alloc (.cells #[.slice A9 v9.length c9, .slice B9 h9.length d9] 30)) 30 (.slice none 0 0) (.slice none 0 0)
  have G : Grow w (((w.alloc (.cells #[.slice A v.length c, .slice B h.length d] 30)).alloc (.cells #[.slice A9 v9.length c9, .slice B9 h9.length d9] 30)).alloc (.cells #[.slice none 0 0, .slice none 0 0] 30)) := (by repeat (first | exact Grow.refl _ | assumption | refine Grow.alloc ?_ _ | refine Grow.drew ?_ | refine Grow.drewN ?_ _ | refine Grow.trans ?_ (by assumption) | refine Grow.below ?_ (by assumption) (by first | exact Nat.le_refl _ | omega)))
  replace y1 := y1.grow (show Grow _ (((w.alloc (.cells #[.slice A v.length c, .slice B h.length d] 30)).alloc (.cells #[.slice A9 v9.length c9, .slice B9 h9.length d9] 30)).alloc (.cells #[.slice none 0 0, .slice none 0 0] 30)) from (by repeat (first | exact Grow.refl _ | assumption | refine Grow.alloc ?_ _ | refine Grow.drew ?_ | refine Grow.drewN ?_ _ | refine Grow.trans ?_ (by assumption) | refine Grow.below ?_ (by assumption) (by first | exact Nat.le_refl _ | omega))))
  replace y2 := y2.grow (show Grow _ (((w.alloc (.cells #[.slice A v.length c, .slice B h.length d] 30)).alloc (.cells #[.slice A9 v9.length c9, .slice B9 h9.length d9] 30)).alloc (.cells #[.slice none 0 0, .slice none 0 0] 30)) from Grow.alloc (Grow.refl _) _)
  have hsz : (((w.alloc (.cells #[.slice A v.length c, .slice B h.length d] 30)).alloc (.cells #[.slice A9 v9.length c9, .slice B9 h9.length d9] 30)).alloc (.cells #[.slice none 0 0, .slice none 0 0] 30)).heap.size = w.heap.size + 3 := by simp
  simp only [World.size_alloc] at y2 y3
  obtain ⟨r, hr⟩ : ∃ r, r = Pl.joinS ⟨v, h⟩ ⟨v9, h9⟩ := ⟨_, rfl⟩
  rw [← hr]
  have HR := Lib.hid hr
  clear hr
  go_enter Try.func29, Try.ntmps29
  obtain ⟨k0, k1, _, _⟩ := y1.facts
  obtain ⟨q0, q1, _, _⟩ := y2.facts
  go_wp2_with fail
  generalize ((w.alloc (.cells #[.slice A v.length c, .slice B h.length d] 30)).alloc (.cells #[.slice A9 v9.length c9, .slice B9 h9.length d9] 30)).alloc (.cells #[.slice none 0 0, .slice none 0 0] 30) = w0 at *
  have hS0 : Sts w0 A B ⟨v, h⟩ := hS.grow G
  have hT0 : Sts w0 A9 B9 ⟨v9, h9⟩ := hT.grow G
  cases ha : Pl.stv ⟨v, h⟩ with
  | false =>
    have HX := Lib.hid (joinOk_1 (t := ⟨v9, h9⟩) ha)
    have C1 : ∀ W, Grow w0 W → Calls Try.prog 42 #[sval A B c d ⟨v, h⟩] W fun e w' => e = .returned (.bool false) ∧ Grow W w' := fun W hg => (StateValid_c A B c d ⟨v, h⟩ W (hS0.grow hg) h1 h2).mono (by rintro e w' ⟨rfl, g⟩; exact ⟨by rw [ha], g⟩)
    clear ha
    go_cut [31] (fun s1 wx => s1 = Value.bool true ∧ Grow w0 wx)
    case first =>
      first | (go_region_with (first | (go_at_call 42; (with_reducible refine (C1 _ (by repeat (first | exact Grow.refl _ | assumption | refine Grow.alloc ?_ _ | refine Grow.drew ?_ | refine Grow.drewN ?_ _ | refine Grow.trans ?_ (by assumption) | refine Grow.below ?_ (by assumption) (by first | exact Nat.le_refl _ | omega)))).mono ?_); rintro e w1 ⟨rfl, g1⟩; replace k0 := g1.cell k0; replace k1 := g1.cell k1; replace q0 := g1.cell q0; replace q1 := g1.cell q1))) | fail
      all_goals
        go_wp2_with fail
        go_meet
        case rel => exact ⟨rfl, (by repeat (first | exact Grow.refl _ | assumption | refine Grow.alloc ?_ _ | refine Grow.drew ?_ | refine Grow.drewN ?_ _ | refine Grow.trans ?_ (by assumption) | refine Grow.below ?_ (by assumption) (by first | exact Nat.le_refl _ | omega)))⟩
    case rest =>
      obtain ⟨rfl, q⟩ := hcut
      replace y3 := y3.grow q
      replace G := G.trans q
      clear k0 k1 q0 q1 q
      obtain ⟨j0, j1, _, _⟩ := y3.facts
      go_wp2_with fail
      refine bodyPost_ret (v := .tuple #[.agg #[.slice none 0 0, .slice none 0 0], .bool false]) (by simp [results, Try.results29, go_sem, j0, j1]) rfl (RSt.no (HR.out.trans (Pl.joinS_no HX.out)) rfl ?_)
      exact (G.setCell (by show w.heap.size ≤ w.heap.size + 1 + 1; omega) _).setCell (by show w.heap.size ≤ w.heap.size + 1 + 1; omega) _
  | true =>
    have HA := Lib.hid ha
    have C1 : ∀ W, Grow w0 W → Calls Try.prog 42 #[sval A B c d ⟨v, h⟩] W fun e w' => e = .returned (.bool true) ∧ Grow W w' := fun W hg => (StateValid_c A B c d ⟨v, h⟩ W (hS0.grow hg) h1 h2).mono (by rintro e w' ⟨rfl, g⟩; exact ⟨by rw [ha], g⟩)
    clear ha
    cases ha : Pl.stv ⟨v9, h9⟩ with
    | false =>
      have HX := Lib.hid (joinOk_2 (s := ⟨v, h⟩) ha)
      have C2 : ∀ W, Grow w0 W → Calls Try.prog 42 #[sval A9 B9 c9 d9 ⟨v9, h9⟩] W fun e w' => e = .returned (.bool false) ∧ Grow W w' := fun W hg => (StateValid_c A9 B9 c9 d9 ⟨v9, h9⟩ W (hT0.grow hg) h3 h4).mono (by rintro e w' ⟨rfl, g⟩; exact ⟨by rw [ha], g⟩)
      clear ha
      go_cut [31] (fun s1 wx => s1 = Value.bool true ∧ Grow w0 wx)
      case first =>
        first | (go_region_with (first
          | (go_at_call 42; (with_reducible refine (C1 _ (by repeat (first | exact Grow.refl _ | assumption | refine Grow.alloc ?_ _ | refine Grow.drew ?_ | refine Grow.drewN ?_ _ | refine Grow.trans ?_ (by assumption) | refine Grow.below ?_ (by assumption) (by first | exact Nat.le_refl _ | omega)))).mono ?_); rintro e w1 ⟨rfl, g1⟩; replace k0 := g1.cell k0; replace k1 := g1.cell k1; replace q0 := g1.cell q0; replace q1 := g1.cell q1)
          | (go_at_call 42; (with_reducible refine (C2 _ (by repeat (first | exact Grow.refl _ | assumption | refine Grow.alloc ?_ _ | refine Grow.drew ?_ | refine Grow.drewN ?_ _ | refine Grow.trans ?_ (by assumption) | refine Grow.below ?_ (by assumption) (by first | exact Nat.le_refl _ | omega)))).mono ?_); rintro e w2 ⟨rfl, g2⟩; replace k0 := g2.cell k0; replace k1 := g2.cell k1; replace q0 := g2.cell q0; replace q1 := g2.cell q1))) | fail
        all_goals
          go_wp2_with fail
          go_meet
          case rel => exact ⟨rfl, (by repeat (first | exact Grow.refl _ | assumption | refine Grow.alloc ?_ _ | refine Grow.drew ?_ | refine Grow.drewN ?_ _ | refine Grow.trans ?_ (by assumption) | refine Grow.below ?_ (by assumption) (by first | exact Nat.le_refl _ | omega)))⟩
      case rest =>
        obtain ⟨rfl, q⟩ := hcut
        replace y3 := y3.grow q
        replace G := G.trans q
        clear k0 k1 q0 q1 q
        obtain ⟨j0, j1, _, _⟩ := y3.facts
        go_wp2_with fail
        refine bodyPost_ret (v := .tuple #[.agg #[.slice none 0 0, .slice none 0 0], .bool false]) (by simp [results, Try.results29, go_sem, j0, j1]) rfl (RSt.no (HR.out.trans (Pl.joinS_no HX.out)) rfl ?_)
        exact (G.setCell (by show w.heap.size ≤ w.heap.size + 1 + 1; omega) _).setCell (by show w.heap.size ≤ w.heap.size + 1 + 1; omega) _
    | true =>
      have HB := Lib.hid ha
      have C2 : ∀ W, Grow w0 W → Calls Try.prog 42 #[sval A9 B9 c9 d9 ⟨v9, h9⟩] W fun e w' => e = .returned (.bool true) ∧ Grow W w' := fun W hg => (StateValid_c A9 B9 c9 d9 ⟨v9, h9⟩ W (hT0.grow hg) h3 h4).mono (by rintro e w' ⟨rfl, g⟩; exact ⟨by rw [ha], g⟩)
      clear ha
      by_cases hv : v = v9
      · have C3 : ∀ W, Grow w0 W → Calls Try.prog 59 #[.slice A v.length c, .slice A9 v9.length c9] W fun e w' => e = .returned (.bool true) ∧ Grow W w' := fun W hg => (sameInts_c A A9 c c9 v v9 W ((show Ints w0 A v from hS0.v).grow hg) ((show Ints w0 A9 v9 from hT0.v).grow hg) (by omega) (by omega)).mono (by rintro e w' ⟨rfl, g⟩; exact ⟨by rw [decide_eq_true hv], g⟩)
        have HV := Lib.hid hv
        clear hv
        have hh8 := Lib.hid (show h.length = 8 from Pl.stv_h HA.out)
        have hh9 := Lib.hid (show h9.length = 8 from Pl.stv_h HB.out)
        obtain ⟨m, hm⟩ := ti_any (Pl.hasB h)
        obtain ⟨m9, hm9⟩ := ti_any (Pl.hasB h9)
        have C4 : ∀ W, Grow w0 W → Calls Try.prog 60 #[.agg #[.slice A v.length c, .slice B h.length d]] W fun e w' => e = .returned (.int .u16 (m : Int)) ∧ Grow W w' := fun W hg => usedIn_m A B v.length c d m h W ((show Ints w0 B h from hS0.h).grow hg) hh8.out hm
        have C5 : ∀ W, Grow w0 W → Calls Try.prog 60 #[.agg #[.slice A9 v9.length c9, .slice B9 h9.length d9]] W fun e w' => e = .returned (.int .u16 (m9 : Int)) ∧ Grow W w' := fun W hg => usedIn_m A9 B9 v9.length c9 d9 m9 h9 W ((show Ints w0 B9 h9 from hT0.h).grow hg) hh9.out hm9
        have hbit := apart_bits hm hm9
        clear hm hm9
        cases hp : Pl.apartB h h9 with
        | false =>
          have HX := Lib.hid (joinOk_4 (s := ⟨v, h⟩) (t := ⟨v9, h9⟩) hp)
          rw [hp, Bool.not_false] at hbit
          clear hp
          go_cut [31] (fun s1 wx => s1 = Value.bool true ∧ Grow w0 wx)
          case first =>
            first | (go_region_with (first
              | (go_at_call 42; (with_reducible refine (C1 _ (by repeat (first | exact Grow.refl _ | assumption | refine Grow.alloc ?_ _ | refine Grow.drew ?_ | refine Grow.drewN ?_ _ | refine Grow.trans ?_ (by assumption) | refine Grow.below ?_ (by assumption) (by first | exact Nat.le_refl _ | omega)))).mono ?_); rintro e w1 ⟨rfl, g1⟩; replace k0 := g1.cell k0; replace k1 := g1.cell k1; replace q0 := g1.cell q0; replace q1 := g1.cell q1)
              | (go_at_call 42; (with_reducible refine (C2 _ (by repeat (first | exact Grow.refl _ | assumption | refine Grow.alloc ?_ _ | refine Grow.drew ?_ | refine Grow.drewN ?_ _ | refine Grow.trans ?_ (by assumption) | refine Grow.below ?_ (by assumption) (by first | exact Nat.le_refl _ | omega)))).mono ?_); rintro e w2 ⟨rfl, g2⟩; replace k0 := g2.cell k0; replace k1 := g2.cell k1; replace q0 := g2.cell q0; replace q1 := g2.cell q1)
              | (go_at_call 59; (with_reducible refine (C3 _ (by repeat (first | exact Grow.refl _ | assumption | refine Grow.alloc ?_ _ | refine Grow.drew ?_ | refine Grow.drewN ?_ _ | refine Grow.trans ?_ (by assumption) | refine Grow.below ?_ (by assumption) (by first | exact Nat.le_refl _ | omega)))).mono ?_); rintro e w3 ⟨rfl, g3⟩; replace k0 := g3.cell k0; replace k1 := g3.cell k1; replace q0 := g3.cell q0; replace q1 := g3.cell q1)
              | (go_at_call 60; (with_reducible refine (C4 _ (by repeat (first | exact Grow.refl _ | assumption | refine Grow.alloc ?_ _ | refine Grow.drew ?_ | refine Grow.drewN ?_ _ | refine Grow.trans ?_ (by assumption) | refine Grow.below ?_ (by assumption) (by first | exact Nat.le_refl _ | omega)))).mono ?_); rintro e w4 ⟨rfl, g4⟩; replace k0 := g4.cell k0; replace k1 := g4.cell k1; replace q0 := g4.cell q0; replace q1 := g4.cell q1)
              | (go_at_call 60; (with_reducible refine (C5 _ (by repeat (first | exact Grow.refl _ | assumption | refine Grow.alloc ?_ _ | refine Grow.drew ?_ | refine Grow.drewN ?_ _ | refine Grow.trans ?_ (by assumption) | refine Grow.below ?_ (by assumption) (by first | exact Nat.le_refl _ | omega)))).mono ?_); rintro e w5 ⟨rfl, g5⟩; replace k0 := g5.cell k0; replace k1 := g5.cell k1; replace q0 := g5.cell q0; replace q1 := g5.cell q1))) | fail
            all_goals
              go_wp2_with fail
              go_meet
              case rel => exact ⟨rfl, (by repeat (first | exact Grow.refl _ | assumption | refine Grow.alloc ?_ _ | refine Grow.drew ?_ | refine Grow.drewN ?_ _ | refine Grow.trans ?_ (by assumption) | refine Grow.below ?_ (by assumption) (by first | exact Nat.le_refl _ | omega)))⟩
          case rest =>
            obtain ⟨rfl, q⟩ := hcut
            replace y3 := y3.grow q
            replace G := G.trans q
            clear k0 k1 q0 q1 q
            obtain ⟨j0, j1, _, _⟩ := y3.facts
            go_wp2_with fail
            refine bodyPost_ret (v := .tuple #[.agg #[.slice none 0 0, .slice none 0 0], .bool false]) (by simp [results, Try.results29, go_sem, j0, j1]) rfl (RSt.no (HR.out.trans (Pl.joinS_no HX.out)) rfl ?_)
            exact (G.setCell (by show w.heap.size ≤ w.heap.size + 1 + 1; omega) _).setCell (by show w.heap.size ≤ w.heap.size + 1 + 1; omega) _
        | true => exact absurd (joinOk_5 HA.out HB.out HV.out hp) (by rw [H0.out]; decide)
      · have HX := Lib.hid (joinOk_3 (s := ⟨v, h⟩) (t := ⟨v9, h9⟩) hv)
        have C3 : ∀ W, Grow w0 W → Calls Try.prog 59 #[.slice A v.length c, .slice A9 v9.length c9] W fun e w' => e = .returned (.bool false) ∧ Grow W w' := fun W hg => (sameInts_c A A9 c c9 v v9 W ((show Ints w0 A v from hS0.v).grow hg) ((show Ints w0 A9 v9 from hT0.v).grow hg) (by omega) (by omega)).mono (by rintro e w' ⟨rfl, g⟩; exact ⟨by rw [decide_eq_false hv], g⟩)
        clear hv
        go_cut [31] (fun s1 wx => s1 = Value.bool true ∧ Grow w0 wx)
        case first =>
          first | (go_region_with (first
            | (go_at_call 42; (with_reducible refine (C1 _ (by repeat (first | exact Grow.refl _ | assumption | refine Grow.alloc ?_ _ | refine Grow.drew ?_ | refine Grow.drewN ?_ _ | refine Grow.trans ?_ (by assumption) | refine Grow.below ?_ (by assumption) (by first | exact Nat.le_refl _ | omega)))).mono ?_); rintro e w1 ⟨rfl, g1⟩; replace k0 := g1.cell k0; replace k1 := g1.cell k1; replace q0 := g1.cell q0; replace q1 := g1.cell q1)
            | (go_at_call 42; (with_reducible refine (C2 _ (by repeat (first | exact Grow.refl _ | assumption | refine Grow.alloc ?_ _ | refine Grow.drew ?_ | refine Grow.drewN ?_ _ | refine Grow.trans ?_ (by assumption) | refine Grow.below ?_ (by assumption) (by first | exact Nat.le_refl _ | omega)))).mono ?_); rintro e w2 ⟨rfl, g2⟩; replace k0 := g2.cell k0; replace k1 := g2.cell k1; replace q0 := g2.cell q0; replace q1 := g2.cell q1)
            | (go_at_call 59; (with_reducible refine (C3 _ (by repeat (first | exact Grow.refl _ | assumption | refine Grow.alloc ?_ _ | refine Grow.drew ?_ | refine Grow.drewN ?_ _ | refine Grow.trans ?_ (by assumption) | refine Grow.below ?_ (by assumption) (by first | exact Nat.le_refl _ | omega)))).mono ?_); rintro e w3 ⟨rfl, g3⟩; replace k0 := g3.cell k0; replace k1 := g3.cell k1; replace q0 := g3.cell q0; replace q1 := g3.cell q1))) | fail
          all_goals
            go_wp2_with fail
            go_meet
            case rel => exact ⟨rfl, (by repeat (first | exact Grow.refl _ | assumption | refine Grow.alloc ?_ _ | refine Grow.drew ?_ | refine Grow.drewN ?_ _ | refine Grow.trans ?_ (by assumption) | refine Grow.below ?_ (by assumption) (by first | exact Nat.le_refl _ | omega)))⟩
        case rest =>
          obtain ⟨rfl, q⟩ := hcut
          replace y3 := y3.grow q
          replace G := G.trans q
          clear k0 k1 q0 q1 q
          obtain ⟨j0, j1, _, _⟩ := y3.facts
          go_wp2_with fail
          refine bodyPost_ret (v := .tuple #[.agg #[.slice none 0 0, .slice none 0 0], .bool false]) (by simp [results, Try.results29, go_sem, j0, j1]) rfl (RSt.no (HR.out.trans (Pl.joinS_no HX.out)) rfl ?_)
          exact (G.setCell (by show w.heap.size ≤ w.heap.size + 1 + 1; omega) _).setCell (by show w.heap.size ≤ w.heap.size + 1 + 1; omega) _

end Go.Proofs.Ytcipmmieiafpbaa
