/- Joining two states in the program, where it succeeds. Conditions: the lengths are far from Go's bounds. -/
import Derived.Test.YtcipmmieiafpbaaJn0
namespace Go.Proofs.Ytcipmmieiafpbaa
open Go.RowKit
set_option linter.unusedVariables false

theorem joinOk_parts {s t : Pl.St} (h : Pl.joinOk s t = true) : Pl.stv s = true ∧ Pl.stv t = true ∧ s.v = t.v ∧ Pl.apartB s.h t.h = true := by
  unfold Pl.joinOk at h
  simpa using h

set_option maxRecDepth 100000 in
set_option maxHeartbeats 3200000 in
theorem JoinStates_yes (A B A9 B9 : Option Addr) (c d c9 d9 : Nat) (s t : Pl.St) (w : World) (hS : Sts w A B s) (hT : Sts w A9 B9 t) (h1 : s.v.length ≤ 4194304) (h2 : s.h.length ≤ 4194304) (h3 : t.v.length ≤ 4194304) (h4 : t.h.length ≤ 4194304) (h0 : Pl.joinOk s t = true) :
    Calls Try.prog 29 #[sval A B c d s, sval A9 B9 c9 d9 t] w (RSt w (Pl.joinS s t)) := by
  have HX := Lib.hid h0
  clear h0
  obtain ⟨v, h⟩ := s
  obtain ⟨v9, h9⟩ := t
  replace h1 : v.length ≤ 4194304 := h1
  replace h2 : h.length ≤ 4194304 := h2
  replace h3 : v9.length ≤ 4194304 := h3
  replace h4 : h9.length ≤ 4194304 := h4
  have y1 := Box2.new w 30 (.slice A v.length c) (.slice B h.length d)
  have y2 := Box2.new (w.alloc (.cells #[.slice A v.length c, .slice B h.length d] 30)) 30 (.slice A9 v9.length c9) (.slice B9 h9.length d9)
  have y3 := Box2.new ((w.alloc (.cells #[.slice A v.length c, .slice B h.length d] 30)).alloc (.cells #[.slice A9 v9.length c9, .slice B9 h9.length d9] 30)) 30 (.slice none 0 0) (.slice none 0 0)
  have G : Grow w (((w.alloc (.cells #[.slice A v.length c, .slice B h.length d] 30)).alloc (.cells #[.slice A9 v9.length c9, .slice B9 h9.length d9] 30)).alloc (.cells #[.slice none 0 0, .slice none 0 0] 30)) := (by repeat (first | exact Grow.refl _ | assumption | refine Grow.alloc ?_ _ | refine Grow.drew ?_ | refine Grow.drewN ?_ _ | refine Grow.trans ?_ (by assumption) | refine Grow.below ?_ (by assumption) (by first | exact Nat.le_refl _ | omega)))
  replace y1 := y1.grow (show Grow _ (((w.alloc (.cells #[.slice A v.length c, .slice B h.length d] 30)).alloc (.cells #[.slice A9 v9.length c9, .slice B9 h9.length d9] 30)).alloc (.cells #[.slice none 0 0, .slice none 0 0] 30)) from (by repeat (first | exact Grow.refl _ | assumption | refine Grow.alloc ?_ _ | refine Grow.drew ?_ | refine Grow.drewN ?_ _ | refine Grow.trans ?_ (by assumption) | refine Grow.below ?_ (by assumption) (by first | exact Nat.le_refl _ | omega))))
  replace y2 := y2.grow (show Grow _ (((w.alloc (.cells #[.slice A v.length c, .slice B h.length d] 30)).alloc (.cells #[.slice A9 v9.length c9, .slice B9 h9.length d9] 30)).alloc (.cells #[.slice none 0 0, .slice none 0 0] 30)) from Grow.alloc (Grow.refl _) _)
  have hsz : (((w.alloc (.cells #[.slice A v.length c, .slice B h.length d] 30)).alloc (.cells #[.slice A9 v9.length c9, .slice B9 h9.length d9] 30)).alloc (.cells #[.slice none 0 0, .slice none 0 0] 30)).heap.size = w.heap.size + 3 := by simp
  simp only [World.size_alloc] at y2 y3
  obtain ⟨r, hr⟩ : ∃ r, r = Pl.joinS ⟨v, h⟩ ⟨v9, h9⟩ := ⟨_, rfl⟩
  rw [← hr]
  have HR := Lib.hid hr
  clear hr
  go_enter Try.func29, Try.ntmps29
  obtain ⟨k0, k1, _, _⟩ := y1.facts
  obtain ⟨q0, q1, _, _⟩ := y2.facts
  go_wp2_with fail
  generalize ((w.alloc (.cells #[.slice A v.length c, .slice B h.length d] 30)).alloc (.cells #[.slice A9 v9.length c9, .slice B9 h9.length d9] 30)).alloc (.cells #[.slice none 0 0, .slice none 0 0] 30) = w0 at *
  have hS0 : Sts w0 A B ⟨v, h⟩ := hS.grow G
  have hT0 : Sts w0 A9 B9 ⟨v9, h9⟩ := hT.grow G
  obtain ⟨ha, hb, hv, hp⟩ := joinOk_parts HX.out
  replace hv : v = v9 := hv
  replace hp : Pl.apartB h h9 = true := hp
  have C1 : ∀ W, Grow w0 W → Calls Try.prog 42 #[sval A B c d ⟨v, h⟩] W fun e w' => e = .returned (.bool true) ∧ Grow W w' := fun W hg => (StateValid_c A B c d ⟨v, h⟩ W (hS0.grow hg) h1 h2).mono (by rintro e w' ⟨rfl, g⟩; exact ⟨by rw [ha], g⟩)
  have C2 : ∀ W, Grow w0 W → Calls Try.prog 42 #[sval A9 B9 c9 d9 ⟨v9, h9⟩] W fun e w' => e = .returned (.bool true) ∧ Grow W w' := fun W hg => (StateValid_c A9 B9 c9 d9 ⟨v9, h9⟩ W (hT0.grow hg) h3 h4).mono (by rintro e w' ⟨rfl, g⟩; exact ⟨by rw [hb], g⟩)
  have C3 : ∀ W, Grow w0 W → Calls Try.prog 59 #[.slice A v.length c, .slice A9 v9.length c9] W fun e w' => e = .returned (.bool true) ∧ Grow W w' := fun W hg => (sameInts_c A A9 c c9 v v9 W ((show Ints w0 A v from hS0.v).grow hg) ((show Ints w0 A9 v9 from hT0.v).grow hg) (by omega) (by omega)).mono (by rintro e w' ⟨rfl, g⟩; exact ⟨by rw [decide_eq_true hv], g⟩)
  have hh8 := Lib.hid (show h.length = 8 from Pl.stv_h ha)
  have hh9 := Lib.hid (show h9.length = 8 from Pl.stv_h hb)
  obtain ⟨m, hm⟩ := ti_any (Pl.hasB h)
  obtain ⟨m9, hm9⟩ := ti_any (Pl.hasB h9)
  have C4 : ∀ W, Grow w0 W → Calls Try.prog 60 #[.agg #[.slice A v.length c, .slice B h.length d]] W fun e w' => e = .returned (.int .u16 (m : Int)) ∧ Grow W w' := fun W hg => usedIn_m A B v.length c d m h W ((show Ints w0 B h from hS0.h).grow hg) hh8.out hm
  have C5 : ∀ W, Grow w0 W → Calls Try.prog 60 #[.agg #[.slice A9 v9.length c9, .slice B9 h9.length d9]] W fun e w' => e = .returned (.int .u16 (m9 : Int)) ∧ Grow W w' := fun W hg => usedIn_m A9 B9 v9.length c9 d9 m9 h9 W ((show Ints w0 B9 h9 from hT0.h).grow hg) hh9.out hm9
  have hbit := apart_bits hm hm9
  rw [hp, Bool.not_true] at hbit
  clear hm hm9 ha hb hv hp
  go_cut [31] (fun s1 wx => s1 = Value.bool false ∧ Grow w0 wx)
  case first =>
    first | (go_region_with (first
      | (go_at_call 42; (with_reducible refine (C1 _ (by repeat (first | exact Grow.refl _ | assumption | refine Grow.alloc ?_ _ | refine Grow.drew ?_ | refine Grow.drewN ?_ _ | refine Grow.trans ?_ (by assumption) | refine Grow.below ?_ (by assumption) (by first | exact Nat.le_refl _ | omega)))).mono ?_); rintro e w1 ⟨rfl, g1⟩; replace k0 := g1.cell k0; replace k1 := g1.cell k1; replace q0 := g1.cell q0; replace q1 := g1.cell q1)
      | (go_at_call 42; (with_reducible refine (C2 _ (by repeat (first | exact Grow.refl _ | assumption | refine Grow.alloc ?_ _ | refine Grow.drew ?_ | refine Grow.drewN ?_ _ | refine Grow.trans ?_ (by assumption) | refine Grow.below ?_ (by assumption) (by first | exact Nat.le_refl _ | omega)))).mono ?_); rintro e w2 ⟨rfl, g2⟩; replace k0 := g2.cell k0; replace k1 := g2.cell k1; replace q0 := g2.cell q0; replace q1 := g2.cell q1)
      | (go_at_call 59; (with_reducible refine (C3 _ (by repeat (first | exact Grow.refl _ | assumption | refine Grow.alloc ?_ _ | refine Grow.drew ?_ | refine Grow.drewN ?_ _ | refine Grow.trans ?_ (by assumption) | refine Grow.below ?_ (by assumption) (by first | exact Nat.le_refl _ | omega)))).mono ?_); rintro e w3 ⟨rfl, g3⟩; replace k0 := g3.cell k0; replace k1 := g3.cell k1; replace q0 := g3.cell q0; replace q1 := g3.cell q1)
      | (go_at_call 60; (with_reducible refine (C4 _ (by repeat (first | exact Grow.refl _ | assumption | refine Grow.alloc ?_ _ | refine Grow.drew ?_ | refine Grow.drewN ?_ _ | refine Grow.trans ?_ (by assumption) | refine Grow.below ?_ (by assumption) (by first | exact Nat.le_refl _ | omega)))).mono ?_); rintro e w4 ⟨rfl, g4⟩; replace k0 := g4.cell k0; replace k1 := g4.cell k1; replace q0 := g4.cell q0; replace q1 := g4.cell q1)
      | (go_at_call 60; (with_reducible refine (C5 _ (by repeat (first | exact Grow.refl _ | assumption | refine Grow.alloc ?_ _ | refine Grow.drew ?_ | refine Grow.drewN ?_ _ | refine Grow.trans ?_ (by assumption) | refine Grow.below ?_ (by assumption) (by first | exact Nat.le_refl _ | omega)))).mono ?_); rintro e w5 ⟨rfl, g5⟩; replace k0 := g5.cell k0; replace k1 := g5.cell k1; replace q0 := g5.cell q0; replace q1 := g5.cell q1))) | fail
    all_goals
      go_wp2_with fail
      go_meet
      case rel => exact ⟨rfl, (by repeat (first | exact Grow.refl _ | assumption | refine Grow.alloc ?_ _ | refine Grow.drew ?_ | refine Grow.drewN ?_ _ | refine Grow.trans ?_ (by assumption) | refine Grow.below ?_ (by assumption) (by first | exact Nat.le_refl _ | omega)))⟩
  case rest =>
    obtain ⟨rfl, q⟩ := hcut
    replace y1 := y1.grow q
    replace y2 := y2.grow q
    replace y3 := y3.grow q
    replace hS0 := hS0.grow q
    replace hT0 := hT0.grow q
    replace G := G.trans q
    clear k0 k1 q0 q1 q
    clear C1 C2 C3 C4 C5 hbit
    have IB9 : Ints wc B9 h9 := hT0.h
    have hzc := y3.lt
    obtain ⟨k0, k1, _, _⟩ := y1.facts
    go_wp2_with fail
    refine (copyState_c A B c d ⟨v, h⟩ _ hS0 h1 h2).mono ?_
    rintro e w1 ⟨A1, B1, c1, d1, rfl, o1, g1⟩
    clear k0 k1 y1 hS0 hT0
    have hz1 := g1.le
    obtain ⟨gB, rfl, hgl, hgs⟩ := own_some o1.h (by show 0 < h.length; have := hh8.out; omega)
    have y6 := Box2.new w1 30 (.slice A1 v.length c1) (.slice (some ⟨gB, 0, none⟩) h.length d1)
    have q : Grow w1 (w1.alloc (.cells #[.slice A1 v.length c1, .slice (some ⟨gB, 0, none⟩) h.length d1] 30)) := (by repeat (first | exact Grow.refl _ | assumption | refine Grow.alloc ?_ _ | refine Grow.drew ?_ | refine Grow.drewN ?_ _ | refine Grow.trans ?_ (by assumption) | refine Grow.below ?_ (by assumption) (by first | exact Nat.le_refl _ | omega)))
    replace y2 := y2.grow (g1.trans q)
    replace y3 := y3.grow (g1.trans q)
    replace o1 := o1.grow q
    have Gc : Grow wc (w1.alloc (.cells #[.slice A1 v.length c1, .slice (some ⟨gB, 0, none⟩) h.length d1] 30)) := g1.trans q
    have hz2 := y6.lt
    clear q g1
    go_wp2_with fail
    generalize w1.alloc (.cells #[.slice A1 v.length c1, .slice (some ⟨gB, 0, none⟩) h.length d1] 30) = w2 at *
    go_loopw [7] (fun i wr => ∃ (k : Nat) (u : List Int), k ≤ 8 ∧ i = .int .i64 ((k : Int) + 1) ∧ Hid (u = Pl.joinTo h9 k h) ∧ Grow wc wr ∧ w1.heap.size < wr.heap.size ∧ Box2 wr (w.heap.size + 1) 30 (.slice A9 v9.length c9) (.slice B9 h9.length d9) ∧ Box2 wr (w.heap.size + 1 + 1) 30 (.slice none 0 0) (.slice none 0 0) ∧ Box2 wr w1.heap.size 30 (.slice A1 v.length c1) (.slice (some ⟨gB, 0, none⟩) u.length d1) ∧ OSt wr wc.heap.size A1 (some ⟨gB, 0, none⟩) c1 d1 ⟨v, u⟩) (fun i _ => 9 - (intOf i).toNat)
    case atStart => exact ⟨0, h, by omega, rfl, Lib.hid (Pl.joinTo_zero h9 h).symm, Gc, hz2, y2, y3, y6, o1⟩
    case round =>
      clear Gc y2 y3 y6 o1 hz2
      obtain ⟨k, u, hk, rfl, HU, Gc, hz2, y2, y3, y6, o1⟩ := hrel
      by_cases hlt : k < 8
      · have hk1 : (k : Int) + 1 ≤ 8 := by omega
        obtain ⟨q0, q1, _, _⟩ := y2.facts
        go_wp2_with fail
        refine (allocated_c A9 B9 v9.length c9 d9 h9 _ _ (IB9.grow Gc) hh9.out).mono ?_
        rintro e w3 ⟨rfl, g3⟩
        replace y2 := y2.grow g3
        replace y3 := y3.grow g3
        replace y6 := y6.grow g3
        replace o1 := o1.grow g3
        replace Gc := Gc.trans g3
        have hz3 := g3.le
        clear g3 q0 q1
        cases hpk : Pl.hasB h9 ((k : Int) + 1) with
        | false =>
          have HV := Lib.hid (joinSkip HU.out hpk)
          clear hpk
          go_wp2_with fail
          go_roundw
          case rel => exact ⟨k + 1, u, by omega, by go_num, HV, Gc, by omega, y2, y3, y6, o1⟩
          case measure => simp [intOf]; omega
        | true =>
          have HV := Lib.hid (joinStep HU.out hpk)
          have hku : k < u.length := by rw [HU.out, Pl.joinTo_len, hh8.out]; omega
          have hku2 : (k : Int) < (u.length : Int) := by omega
          clear hpk
          obtain ⟨q0, q1, _, _⟩ := y2.facts
          obtain ⟨k0, k1, _, _⟩ := y6.facts
          obtain ⟨x, hx⟩ : ∃ x, x = Pl.cont h9 ((k : Int) + 1) := ⟨_, rfl⟩
          rw [← hx] at HV
          have CC : ∀ W, Grow w3 W → Calls Try.prog 52 #[.agg #[.slice A9 v9.length c9, .slice B9 h9.length d9], .int .i64 ((k : Int) + 1)] W fun e w' => e = .returned (.int .i64 x) ∧ Grow W w' := fun W hg => (content_c A9 B9 v9.length c9 d9 h9 ((k : Int) + 1) W (IB9.grow (Gc.trans hg)) hh9.out).mono (by rintro e w' ⟨rfl, g⟩; exact ⟨by rw [hx], g⟩)
          clear hx
          have hk0 : (0 : Int) ≤ (k : Int) := by omega
          have hw : IntKind.i64.wrap ((k : Int) + 1 - 1) = (k : Int) := by rw [IntWalk.i64_in _ (by omega)]; omega
          have hw2 : IntKind.i64.wrap (k : Int) = (k : Int) := IntWalk.i64_in _ (by omega)
          have hne1 : ¬ w.heap.size + 1 = gB := by omega
          have hne2 : ¬ w1.heap.size = gB := by omega
          go_wp2_with fail
          first | (go_region_held3 (fun W => W.cell? ⟨w.heap.size + 1, 0, none⟩ = some (.slice A9 v9.length c9) ∧ W.cell? ⟨w.heap.size + 1, 1, none⟩ = some (.slice B9 h9.length d9) ∧ W.cell? ⟨w1.heap.size, 1, none⟩ = some (.slice (some ⟨gB, 0, none⟩) u.length d1))
            (first
              | (go_keep; done)
              | (go_split_ands; exact ⟨g4.cell (by assumption), g4.cell (by assumption), g4.cell (by assumption)⟩)
              | (go_split_ands; exact ⟨(World.cell?_setCell_other _ _ _ _ (fun e => hne1 (by injection e with e _ _; first | exact e | exact e.symm))).trans (by assumption), (World.cell?_setCell_other _ _ _ _ (fun e => hne1 (by injection e with e _ _; first | exact e | exact e.symm))).trans (by assumption), (World.cell?_setCell_other _ _ _ _ (fun e => hne2 (by injection e with e _ _; first | exact e | exact e.symm))).trans (by assumption)⟩)
              | fail)
            ((go_at_call 52; (with_reducible refine (CC _ (by repeat (first | exact Grow.refl _ | assumption | refine Grow.alloc ?_ _ | refine Grow.drew ?_ | refine Grow.drewN ?_ _ | refine Grow.trans ?_ (by assumption) | refine Grow.below ?_ (by assumption) (by first | exact Nat.le_refl _ | omega)))).mono ?_); rintro e w4 ⟨rfl, g4⟩; have o4 := o1.grow (show Grow w3 w4 from (by repeat (first | exact Grow.refl _ | assumption | refine Grow.alloc ?_ _ | refine Grow.drew ?_ | refine Grow.drewN ?_ _ | refine Grow.trans ?_ (by assumption) | refine Grow.below ?_ (by assumption) (by first | exact Nat.le_refl _ | omega)))); obtain ⟨z0, c0⟩ : ∃ z, w4.cell? ⟨gB, k, none⟩ = some z := ⟨_, own_cellAt o4.h (show (u.map (Value.int .i64))[k]? = some (.int .i64 u[k]) by simp [hku])⟩; have f0 := World.ownsRow.frozenAt o4.h k))) | fail
          all_goals
            have q : Grow w3 w4 := (by repeat (first | exact Grow.refl _ | assumption | refine Grow.alloc ?_ _ | refine Grow.drew ?_ | refine Grow.drewN ?_ _ | refine Grow.trans ?_ (by assumption) | refine Grow.below ?_ (by assumption) (by first | exact Nat.le_refl _ | omega)))
            have hz4 := q.le
            have o5 := o4.setH (k := k) x
            replace y2 := (y2.grow q).far (p := ⟨gB, k, none⟩) (by show w.heap.size + 1 ≠ gB; omega) (.int .i64 x)
            replace y3 := (y3.grow q).far (p := ⟨gB, k, none⟩) (by show w.heap.size + 1 + 1 ≠ gB; omega) (.int .i64 x)
            replace y6 := (y6.grow q).far (p := ⟨gB, k, none⟩) (by show w1.heap.size ≠ gB; omega) (.int .i64 x)
            replace Gc := (Gc.trans q).setCell (p := ⟨gB, k, none⟩) (by show wc.heap.size ≤ gB; omega) (.int .i64 x)
            clear q0 q1 k0 k1 q g4 o4 c0 f0 z0 o1 CC
            go_wp2
            go_roundw
            case rel => exact ⟨k + 1, u.set k x, by omega, by go_num, HV, Gc, by show w1.heap.size < (w4.setCell _ _).heap.size; simp [World.setCell]; omega, y2, y3, by rw [List.length_set]; exact y6, o5⟩
            case measure => simp [intOf]; omega
      · have hk8 : k = 8 := by omega
        have HV := Lib.hid (show u = Pl.joinTo h9 8 h by rw [HU.out, hk8])
        have hn : 8 < (k : Int) + 1 := by omega
        clear hk8 HU
        obtain ⟨k0, k1, _, _⟩ := y6.facts
        obtain ⟨j0, j1, _, _⟩ := y3.facts
        have G2 := G.trans Gc
        go_wp2_with fail
        refine bodyPost_ret (v := .tuple #[.agg #[.slice A1 v.length c1, .slice (some ⟨gB, 0, none⟩) u.length d1], .bool true]) (by simp [results, Try.results29, go_sem, j0, j1]) rfl ?_
        rw [show r = (⟨v, u⟩, true) by rw [HR.out, Pl.joinS_ok HX.out, HV.out]]
        exact ⟨A1, _, c1, d1, rfl, ((o1.far (by show w.heap.size + 1 + 1 < _; omega) _).far (by show w.heap.size + 1 + 1 < _; omega) _).lo (by omega), (G2.setCell (by show w.heap.size ≤ w.heap.size + 1 + 1; omega) _).setCell (by show w.heap.size ≤ w.heap.size + 1 + 1; omega) _⟩

end Go.Proofs.Ytcipmmieiafpbaa
