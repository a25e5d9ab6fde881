/- The contract of joining two states in the reference. Conditions: the lengths are far from Go's bounds. -/
import Derived.Test.YtcipmmieiafpbaaJn0
namespace Go.Proofs.Ytcipmmieiafpbaa
open Go.RowKit
set_option linter.unusedVariables false

theorem cellFar2 {w : World} {g i k : Nat} {x y u : Value} (hne : g ≠ i) (h : w.cell? ⟨g, k, none⟩ = some u) : ((w.setCell ⟨i, 0, none⟩ x).setCell ⟨i, 1, none⟩ y).cell? ⟨g, k, none⟩ = some u :=
  (World.cell?_setCell_other _ _ _ _ (by intro e; injection e with e; exact hne (by first | exact e | exact e.symm))).trans ((World.cell?_setCell_other _ _ _ _ (by intro e; injection e with e; exact hne (by first | exact e | exact e.symm))).trans h)

set_option maxRecDepth 100000 in
set_option maxHeartbeats 3200000 in
theorem sJoinStates_c (A B A9 B9 : Option Addr) (c d c9 d9 : Nat) (s t : Pl.St) (w : World) (hS : Sts w A B s) (hT : Sts w A9 B9 t) (h1 : s.v.length ≤ 4194304) (h2 : s.h.length ≤ 4194304) (h3 : t.v.length ≤ 4194304) (h4 : t.h.length ≤ 4194304) :
    Calls Try.prog 28 #[sval A B c d s, sval A9 B9 c9 d9 t] w (RSt w (Pl.joinS s t)) := by
  obtain ⟨v, h⟩ := s
  obtain ⟨v9, h9⟩ := t
  replace h1 : v.length ≤ 4194304 := h1
  replace h2 : h.length ≤ 4194304 := h2
  replace h3 : v9.length ≤ 4194304 := h3
  replace h4 : h9.length ≤ 4194304 := h4
  have y1 := Box2.new w 30 (.slice A v.length c) (.slice B h.length d)
  have y2 := Box2.new (w.alloc (.cells #[.slice A v.length c, .slice B h.length d] 30)) 30 (.slice A9 v9.length c9) (.slice B9 h9.length d9)
  have y3 := Box2.new ((w.alloc (.cells #[.slice A v.length c, .slice B h.length d] 30)).alloc (.cells #[.slice A9 v9.length c9, .slice B9 h9.length d9] 30)) 30 (.slice none 0 0) (.slice none 0 0)
  have G : Grow w (((w.alloc (.cells #[.slice A v.length c, .slice B h.length d] 30)).alloc (.cells #[.slice A9 v9.length c9, .slice B9 h9.length d9] 30)).alloc (.cells #[.slice none 0 0, .slice none 0 0] 30)) := (by repeat (first | exact Grow.refl _ | assumption | refine Grow.alloc ?_ _ | refine Grow.drew ?_ | refine Grow.drewN ?_ _ | refine Grow.trans ?_ (by assumption) | refine Grow.below ?_ (by assumption) (by first | exact Nat.le_refl _ | omega)))
  replace y1 := y1.grow (show Grow _ (((w.alloc (.cells #[.slice A v.length c, .slice B h.length d] 30)).alloc (.cells #[.slice A9 v9.length c9, .slice B9 h9.length d9] 30)).alloc (.cells #[.slice none 0 0, .slice none 0 0] 30)) from (by repeat (first | exact Grow.refl _ | assumption | refine Grow.alloc ?_ _ | refine Grow.drew ?_ | refine Grow.drewN ?_ _ | refine Grow.trans ?_ (by assumption) | refine Grow.below ?_ (by assumption) (by first | exact Nat.le_refl _ | omega))))
  replace y2 := y2.grow (show Grow _ (((w.alloc (.cells #[.slice A v.length c, .slice B h.length d] 30)).alloc (.cells #[.slice A9 v9.length c9, .slice B9 h9.length d9] 30)).alloc (.cells #[.slice none 0 0, .slice none 0 0] 30)) from Grow.alloc (Grow.refl _) _)
  have hsz : (((w.alloc (.cells #[.slice A v.length c, .slice B h.length d] 30)).alloc (.cells #[.slice A9 v9.length c9, .slice B9 h9.length d9] 30)).alloc (.cells #[.slice none 0 0, .slice none 0 0] 30)).heap.size = w.heap.size + 3 := by simp
  simp only [World.size_alloc] at y2 y3
  obtain ⟨r, hr⟩ : ∃ r, r = Pl.joinS ⟨v, h⟩ ⟨v9, h9⟩ := ⟨_, rfl⟩
  rw [← hr]
  have HR := Lib.hid hr
  clear hr
  go_enter Try.func28, Try.ntmps28
  obtain ⟨k0, k1, _, _⟩ := y1.facts
  obtain ⟨q0, q1, _, _⟩ := y2.facts
  go_wp2_with fail
  generalize ((w.alloc (.cells #[.slice A v.length c, .slice B h.length d] 30)).alloc (.cells #[.slice A9 v9.length c9, .slice B9 h9.length d9] 30)).alloc (.cells #[.slice none 0 0, .slice none 0 0] 30) = w0 at *
  have hS0 : Sts w0 A B ⟨v, h⟩ := hS.grow G
  have hT0 : Sts w0 A9 B9 ⟨v9, h9⟩ := hT.grow G
  refine (sStateValid_c A B c d ⟨v, h⟩ _ hS0 h1 h2).mono ?_
  rintro e w1 ⟨rfl, g1⟩
  clear k0 k1 q0 q1
  replace y1 := y1.grow g1
  replace y2 := y2.grow g1
  replace y3 := y3.grow g1
  replace hS0 := hS0.grow g1
  replace hT0 := hT0.grow g1
  replace G := G.trans g1
  clear g1
  cases ha : Pl.stv ⟨v, h⟩ with
  | false =>
    have HX := Lib.hid (joinOk_1 (t := ⟨v9, h9⟩) ha)
    clear ha
    obtain ⟨j0, j1, _, _⟩ := y3.facts
    go_wp2_with fail
    refine bodyPost_ret (v := .tuple #[.agg #[.slice none 0 0, .slice none 0 0], .bool false]) (by simp [results, Try.results28, go_sem, j0, j1]) rfl (RSt.no (HR.out.trans (Pl.joinS_no HX.out)) rfl ?_)
    exact (G.setCell (by show w.heap.size ≤ w.heap.size + 1 + 1; omega) _).setCell (by show w.heap.size ≤ w.heap.size + 1 + 1; omega) _
  | true =>
    have HA := Lib.hid ha
    clear ha
    obtain ⟨q0, q1, _, _⟩ := y2.facts
    go_wp2_with fail
    refine (sStateValid_c A9 B9 c9 d9 ⟨v9, h9⟩ _ hT0 h3 h4).mono ?_
    rintro e w2 ⟨rfl, g2⟩
    clear q0 q1
    replace y1 := y1.grow g2
    replace y2 := y2.grow g2
    replace y3 := y3.grow g2
    replace hS0 := hS0.grow g2
    replace hT0 := hT0.grow g2
    replace G := G.trans g2
    clear g2
    cases ha : Pl.stv ⟨v9, h9⟩ with
    | false =>
      have HX := Lib.hid (joinOk_2 (s := ⟨v, h⟩) ha)
      clear ha
      obtain ⟨j0, j1, _, _⟩ := y3.facts
      go_wp2_with fail
      refine bodyPost_ret (v := .tuple #[.agg #[.slice none 0 0, .slice none 0 0], .bool false]) (by simp [results, Try.results28, go_sem, j0, j1]) rfl (RSt.no (HR.out.trans (Pl.joinS_no HX.out)) rfl ?_)
      exact (G.setCell (by show w.heap.size ≤ w.heap.size + 1 + 1; omega) _).setCell (by show w.heap.size ≤ w.heap.size + 1 + 1; omega) _
    | true =>
      have HB := Lib.hid ha
      clear ha
      obtain ⟨k0, k1, _, _⟩ := y1.facts
      obtain ⟨q0, q1, _, _⟩ := y2.facts
      go_wp2_with fail
      refine (l2Ints_c A A9 c c9 v v9 _ hS0.v hT0.v (by omega) (by omega)).mono ?_
      rintro e w3 ⟨rfl, g3⟩
      clear k0 k1 q0 q1
      replace y1 := y1.grow g3
      replace y2 := y2.grow g3
      replace y3 := y3.grow g3
      replace hS0 := hS0.grow g3
      replace hT0 := hT0.grow g3
      replace G := G.trans g3
      clear g3
      by_cases hv : v = v9
      · have hvd : decide (v = v9) = true := decide_eq_true hv
        have HV0 := Lib.hid hv
        have hh8 := Lib.hid (show h.length = 8 from Pl.stv_h HA.out)
        have hh9 := Lib.hid (show h9.length = 8 from Pl.stv_h HB.out)
        have h8e := hh8.out
        have h9e := hh9.out
        have IB9 : Ints w3 B9 h9 := hT0.h
        have hzc := y3.lt
        rw [hvd]
        clear hv hvd
        obtain ⟨k0, k1, _, _⟩ := y1.facts
        clear h8e h9e
        go_wp2_with fail
        refine (l2Copy_c A B c d ⟨v, h⟩ _ hS0 h1 h2).mono ?_
        rintro e w4 ⟨A1, B1, c1, d1, rfl, o1, g1⟩
        clear k0 k1 y1 hS0 hT0
        have hz1 := g1.le
        obtain ⟨gB, rfl, hgl, hgs⟩ := own_some o1.h (by show 0 < h.length; have := hh8.out; omega)
        have y6 := Box2.new w4 30 (.slice A1 v.length c1) (.slice (some ⟨gB, 0, none⟩) h.length d1)
        have q : Grow w4 (w4.alloc (.cells #[.slice A1 v.length c1, .slice (some ⟨gB, 0, none⟩) h.length d1] 30)) := (by repeat (first | exact Grow.refl _ | assumption | refine Grow.alloc ?_ _ | refine Grow.drew ?_ | refine Grow.drewN ?_ _ | refine Grow.trans ?_ (by assumption) | refine Grow.below ?_ (by assumption) (by first | exact Nat.le_refl _ | omega)))
        replace y2 := y2.grow (g1.trans q)
        replace y3 := y3.grow (g1.trans q)
        replace o1 := o1.grow q
        have Gc : Grow w3 (w4.alloc (.cells #[.slice A1 v.length c1, .slice (some ⟨gB, 0, none⟩) h.length d1] 30)) := g1.trans q
        have hz2 := y6.lt
        clear q g1
        go_wp2_with fail
        generalize w4.alloc (.cells #[.slice A1 v.length c1, .slice (some ⟨gB, 0, none⟩) h.length d1] 30) = w5 at *
        go_loopw [7] (fun i wr => ∃ (k : Nat) (u : List Int), k ≤ 8 ∧ i = .int .i64 (k : Int) ∧ Hid (u = Pl.joinTo h9 k h ∧ ∀ i : Nat, i < k → ¬ (Pl.hasB h ((i : Int) + 1) = true ∧ Pl.hasB h9 ((i : Int) + 1) = true)) ∧ Grow w3 wr ∧ w4.heap.size < wr.heap.size ∧ Box2 wr (w.heap.size + 1) 30 (.slice A9 v9.length c9) (.slice B9 h9.length d9) ∧ Box2 wr (w.heap.size + 1 + 1) 30 (.slice none 0 0) (.slice none 0 0) ∧ Box2 wr w4.heap.size 30 (.slice A1 v.length c1) (.slice (some ⟨gB, 0, none⟩) u.length d1) ∧ OSt wr w3.heap.size A1 (some ⟨gB, 0, none⟩) c1 d1 ⟨v, u⟩) (fun i _ => 8 - (intOf i).toNat)
        case atStart => exact ⟨0, h, by omega, rfl, Lib.hid ⟨(Pl.joinTo_zero h9 h).symm, fun i hi => absurd hi (Nat.not_lt_zero _)⟩, Gc, hz2, y2, y3, y6, o1⟩
        case round =>
          clear Gc y2 y3 y6 o1 hz2
          obtain ⟨k, u, hk, rfl, HU, Gc, hz2, y2, y3, y6, o1⟩ := hrel
          by_cases hlt : k < 8
          · have hk1 : (k : Int) < 8 := by omega
            have hk9 : k < h9.length := by rw [hh9.out]; exact hlt
            have hk92 : (k : Int) < (h9.length : Int) := by omega
            have hk0 : (0 : Int) ≤ (k : Int) := by omega
            obtain ⟨b, off, rfl, c0⟩ := (IB9.grow Gc).at_ hk9
            have hc9 := Pl.cont_in hk9 hh9.out
            obtain ⟨q0, q1, _, _⟩ := y2.facts
            by_cases hp : h9[k] < 0
            · have hpf : Pl.hasB h9 ((k : Int) + 1) = false := by rw [Pl.hasB_false, hc9]; exact hp
              have HV := Lib.hid (show u = Pl.joinTo h9 (k + 1) h ∧ ∀ i : Nat, i < k + 1 → ¬ (Pl.hasB h ((i : Int) + 1) = true ∧ Pl.hasB h9 ((i : Int) + 1) = true) from ⟨joinSkip HU.out.1 hpf, fun i hi => by
                rcases Nat.lt_succ_iff_lt_or_eq.1 hi with e | e
                · exact HU.out.2 i e
                · subst e; rw [hpf]; rintro ⟨_, e⟩; cases e⟩)
              clear hpf hc9
              go_wp2_with fail
              go_roundw
              case rel => exact ⟨k + 1, u, by omega, by go_num, HV, Gc, by omega, y2, y3, y6, o1⟩
              case measure => simp [intOf]; omega
            · have hp9 : Pl.hasB h9 ((k : Int) + 1) = true := by rw [Pl.hasB_iff, hc9]; omega
              have hku : k < u.length := by rw [HU.out.1, Pl.joinTo_len, hh8.out]; omega
              have hku2 : (k : Int) < (u.length : Int) := by omega
              have hkh : k < h.length := by rw [hh8.out]; exact hlt
              have hc8 := Pl.cont_in hkh hh8.out
              have huk : u[k] = h[k] := by
                have := Pl.joinTo_get (g := h9) (Nat.le_refl k) hkh
                rw [← HU.out.1, List.getElem?_eq_getElem hku, List.getElem?_eq_getElem hkh] at this
                exact Option.some.inj this
              have d0 : wr.cell? ⟨gB, k, none⟩ = some (.int .i64 u[k]) := own_cellAt o1.h (show (u.map (Value.int .i64))[k]? = some (.int .i64 u[k]) by simp [hku])
              obtain ⟨k0, k1, _, _⟩ := y6.facts
              by_cases ho : 0 ≤ u[k]
              · have hp8 : Pl.hasB h ((k : Int) + 1) = true := by rw [Pl.hasB_iff, hc8]; omega
                have HX := Lib.hid (joinOk_4 (s := ⟨v, h⟩) (t := ⟨v9, h9⟩) (show Pl.apartB h h9 = false by
                  rw [← Bool.not_eq_true, Pl.apartB_iff]
                  exact fun e => e k hlt ⟨hp8, hp9⟩))
                replace G := G.trans Gc
                clear hp8 hp9 hc8 hc9 huk
                obtain ⟨j0, j1, _, _⟩ := y3.facts
                go_wp2_with fail
                refine bodyPost_ret (v := .tuple #[.agg #[.slice none 0 0, .slice none 0 0], .bool false]) (by simp [results, Try.results28, go_sem, j0, j1]) rfl (RSt.no (HR.out.trans (Pl.joinS_no HX.out)) rfl ?_)
                exact (G.setCell (by show w.heap.size ≤ w.heap.size + 1 + 1; omega) _).setCell (by show w.heap.size ≤ w.heap.size + 1 + 1; omega) _
              · have hp8 : Pl.hasB h ((k : Int) + 1) = false := by rw [Pl.hasB_false, hc8]; omega
                have HV := Lib.hid (show u.set k h9[k] = Pl.joinTo h9 (k + 1) h ∧ ∀ i : Nat, i < k + 1 → ¬ (Pl.hasB h ((i : Int) + 1) = true ∧ Pl.hasB h9 ((i : Int) + 1) = true) from ⟨by rw [← joinStep HU.out.1 hp9, hc9], fun i hi => by
                  rcases Nat.lt_succ_iff_lt_or_eq.1 hi with e | e
                  · exact HU.out.2 i e
                  · subst e; rw [hp8]; rintro ⟨e, _⟩; cases e⟩)
                have f0 := World.ownsRow.frozenAt o1.h k
                clear hp8 hp9 hc8 hc9 huk
                go_wp2_with fail
                go_still_tail 9, mixed
                change wpList _ _ _ _ _ wr.drew
                have o5 := (o1.grow (show Grow wr wr.drew from (by repeat (first | exact Grow.refl _ | assumption | refine Grow.alloc ?_ _ | refine Grow.drew ?_ | refine Grow.drewN ?_ _ | refine Grow.trans ?_ (by assumption) | refine Grow.below ?_ (by assumption) (by first | exact Nat.le_refl _ | omega))))).setH (k := k) h9[k]
                have Gd : Grow wr wr.drew := (by repeat (first | exact Grow.refl _ | assumption | refine Grow.alloc ?_ _ | refine Grow.drew ?_ | refine Grow.drewN ?_ _ | refine Grow.trans ?_ (by assumption) | refine Grow.below ?_ (by assumption) (by first | exact Nat.le_refl _ | omega)))
                replace y2 := (y2.grow Gd).far (p := ⟨gB, k, none⟩) (by show w.heap.size + 1 ≠ gB; omega) (.int .i64 h9[k])
                replace y3 := (y3.grow Gd).far (p := ⟨gB, k, none⟩) (by show w.heap.size + 1 + 1 ≠ gB; omega) (.int .i64 h9[k])
                replace y6 := (y6.grow Gd).far (p := ⟨gB, k, none⟩) (by show w4.heap.size ≠ gB; omega) (.int .i64 h9[k])
                replace Gc := (Gc.trans Gd).setCell (p := ⟨gB, k, none⟩) (by show w3.heap.size ≤ gB; omega) (.int .i64 h9[k])
                clear q0 q1 k0 k1 Gd o1 c0
                go_wp2
                go_roundw
                case rel => exact ⟨k + 1, u.set k h9[k], by omega, by go_num, HV, Gc, by show w4.heap.size < (wr.drew.setCell _ _).heap.size; simp [World.setCell]; omega, y2, y3, by rw [List.length_set]; exact y6, o5⟩
                case measure => simp [intOf]; omega
          · have hk8 : k = 8 := by omega
            have HV := Lib.hid (show u = Pl.joinTo h9 8 h by rw [HU.out.1, hk8])
            have HO := Lib.hid (joinOk_5 (s := ⟨v, h⟩) (t := ⟨v9, h9⟩) HA.out HB.out HV0.out ((Pl.apartB_iff _ _).2 fun i hi => HU.out.2 i (by omega)))
            have hn : ¬ (k : Int) < 8 := by omega
            clear hk8 HU
            obtain ⟨k0, k1, _, _⟩ := y6.facts
            obtain ⟨j0, j1, _, _⟩ := y3.facts
            have G2 := G.trans Gc
            go_wp2_with fail
            refine bodyPost_ret (v := .tuple #[.agg #[.slice A1 v.length c1, .slice (some ⟨gB, 0, none⟩) u.length d1], .bool true]) (by simp [results, Try.results28, go_sem, j0, j1]) rfl ?_
            rw [show r = (⟨v, u⟩, true) by rw [HR.out, Pl.joinS_ok HO.out, HV.out]]
            exact ⟨A1, _, c1, d1, rfl, ((o1.far (by show w.heap.size + 1 + 1 < _; omega) _).far (by show w.heap.size + 1 + 1 < _; omega) _).lo (by omega), (G2.setCell (by show w.heap.size ≤ w.heap.size + 1 + 1; omega) _).setCell (by show w.heap.size ≤ w.heap.size + 1 + 1; omega) _⟩
      · have HX := Lib.hid (joinOk_3 (s := ⟨v, h⟩) (t := ⟨v9, h9⟩) hv)
        have hvd : decide (v = v9) = false := decide_eq_false hv
        rw [hvd]
        clear hv hvd
        obtain ⟨j0, j1, _, _⟩ := y3.facts
        go_wp2_with fail
        refine bodyPost_ret (v := .tuple #[.agg #[.slice none 0 0, .slice none 0 0], .bool false]) (by simp [results, Try.results28, go_sem, j0, j1]) rfl (RSt.no (HR.out.trans (Pl.joinS_no HX.out)) rfl ?_)
        exact (G.setCell (by show w.heap.size ≤ w.heap.size + 1 + 1; omega) _).setCell (by show w.heap.size ≤ w.heap.size + 1 + 1; omega) _

end Go.Proofs.Ytcipmmieiafpbaa
