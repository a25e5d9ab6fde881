/- Contracts of SubstAssertion, in the program and in the reference. Conditions: the lengths are far from Go's bounds. -/
import Derived.Test.YtlcijjbeikoppaaAs8
namespace Go.Proofs.Ytlcijjbeikoppaa
open Go.RowKit
set_option linter.unusedVariables false



set_option maxRecDepth 100000 in
set_option maxHeartbeats 1600000 in
theorem SubstAssertion_c (A B : Option Addr) (c d : Nat) (s : Pl.Asr) (t x : Int) (w : World) (hS : Asrs w A B s) (h1 : s.f.length ≤ 4194304) (h2 : s.a.length ≤ 4194304) :
    Calls Try.prog 10 #[asval A B c d s, .int .i64 t, .int .i64 x] w (RAs w (Pl.sbR s t x)) := by
  obtain ⟨v, h⟩ := s
  have y1 := (Box2.new w 30 (.slice A v.length c) (.slice B h.length d)).grow (show Grow _ ((w.alloc (.cells #[.slice A v.length c, .slice B h.length d] 30)).alloc (.cells #[.slice none 0 0, .slice none 0 0] 30)) from Grow.alloc (Grow.refl _) _)
  have y2 := Box2.new (w.alloc (.cells #[.slice A v.length c, .slice B h.length d] 30)) 30 (.slice none 0 0) (.slice none 0 0)
  simp only [World.size_alloc] at y2
  have G : Grow w ((w.alloc (.cells #[.slice A v.length c, .slice B h.length d] 30)).alloc (.cells #[.slice none 0 0, .slice none 0 0] 30)) := (by repeat (first | exact Grow.refl _ | assumption | refine Grow.alloc ?_ _ | refine Grow.drew ?_ | refine Grow.drewN ?_ _ | refine Grow.trans ?_ (by assumption) | refine Grow.below ?_ (by assumption) (by first | exact Nat.le_refl _ | omega)))
  obtain ⟨bv, hbv⟩ : ∃ b, b = Pl.asv ⟨v, h⟩ := ⟨_, rfl⟩
  obtain ⟨bt, hbt⟩ : ∃ b, b = Pl.tmB t := ⟨_, rfl⟩
  obtain ⟨bx, hbx⟩ : ∃ b, b = Pl.tmB x := ⟨_, rfl⟩
  have CV := Lib.hid (show ∀ W, Asrs W A B ⟨v, h⟩ → Calls Try.prog 33 #[asval A B c d ⟨v, h⟩] W fun e w' => e = .returned (.bool bv) ∧ Grow W w' from fun W k => by rw [hbv]; exact AssertionValid_c A B c d ⟨v, h⟩ W k h1 h2)
  have CT := Lib.hid (show ∀ W, Calls Try.prog 34 #[.int .i64 t] W fun e w' => e = .returned (.bool bt) ∧ W = w' from fun W => by rw [hbt]; exact isTerm_c t W)
  have CX := Lib.hid (show ∀ W, Calls Try.prog 34 #[.int .i64 x] W fun e w' => e = .returned (.bool bx) ∧ W = w' from fun W => by rw [hbx]; exact isTerm_c x W)
  have HB := Lib.hid (show Pl.sbOk ⟨v, h⟩ t x = (bv && (bt && bx && decide (t ≠ 0))) by unfold Pl.sbOk; rw [hbv, hbt, hbx])
  clear hbv hbt hbx
  cases bv with
  | false =>
    have HX := Lib.hid (Pl.sbR_no (HB.out.trans (by simp)))
    go_enter Try.func10, Try.ntmps10
    obtain ⟨k0, k1, _, _⟩ := y1.facts
    go_wp2_with fail
    generalize (w.alloc (.cells #[.slice A v.length c, .slice B h.length d] 30)).alloc (.cells #[.slice none 0 0, .slice none 0 0] 30) = w0 at *
    refine (CV.out _ (hS.grow G)).mono ?_
    rintro e w1 ⟨rfl, g1⟩
    obtain ⟨j0, j1, e0, e1⟩ := (y2.grow g1).facts
    clear k0 k1 y1 y2
    go_wp2_with (first | (go_at_call 34; (with_reducible refine (CT.out _).mono ?_); rintro e wx ⟨rfl, rfl⟩) | (go_at_call 34; (with_reducible refine (CX.out _).mono ?_); rintro e wx ⟨rfl, rfl⟩))
    refine bodyPost_ret (v := .tuple #[.agg #[.slice none 0 0, .slice none 0 0], .bool false]) (by simp [results, Try.results10, go_sem, j0, j1]) rfl (RAs.no HX.out rfl ?_)
    exact ((G.trans g1).setCell (by show w.heap.size ≤ w.heap.size + 1; omega) _).setCell (by show w.heap.size ≤ w.heap.size + 1; omega) _
  | true => cases bt with
    | false =>
      have HX := Lib.hid (Pl.sbR_no (HB.out.trans (by simp)))
      go_enter Try.func10, Try.ntmps10
      obtain ⟨k0, k1, _, _⟩ := y1.facts
      go_wp2_with fail
      generalize (w.alloc (.cells #[.slice A v.length c, .slice B h.length d] 30)).alloc (.cells #[.slice none 0 0, .slice none 0 0] 30) = w0 at *
      refine (CV.out _ (hS.grow G)).mono ?_
      rintro e w1 ⟨rfl, g1⟩
      obtain ⟨j0, j1, e0, e1⟩ := (y2.grow g1).facts
      clear k0 k1 y1 y2
      go_wp2_with (first | (go_at_call 34; (with_reducible refine (CT.out _).mono ?_); rintro e wx ⟨rfl, rfl⟩) | (go_at_call 34; (with_reducible refine (CX.out _).mono ?_); rintro e wx ⟨rfl, rfl⟩))
      refine bodyPost_ret (v := .tuple #[.agg #[.slice none 0 0, .slice none 0 0], .bool false]) (by simp [results, Try.results10, go_sem, j0, j1]) rfl (RAs.no HX.out rfl ?_)
      exact ((G.trans g1).setCell (by show w.heap.size ≤ w.heap.size + 1; omega) _).setCell (by show w.heap.size ≤ w.heap.size + 1; omega) _
    | true => cases bx with
      | false =>
        have HX := Lib.hid (Pl.sbR_no (HB.out.trans (by simp)))
        by_cases h0 : t = 0
        · have hb : (t == 0) = true := by simp [h0]
          clear h0
          go_enter Try.func10, Try.ntmps10
          obtain ⟨k0, k1, _, _⟩ := y1.facts
          go_wp2_with fail
          generalize (w.alloc (.cells #[.slice A v.length c, .slice B h.length d] 30)).alloc (.cells #[.slice none 0 0, .slice none 0 0] 30) = w0 at *
          refine (CV.out _ (hS.grow G)).mono ?_
          rintro e w1 ⟨rfl, g1⟩
          obtain ⟨j0, j1, e0, e1⟩ := (y2.grow g1).facts
          clear k0 k1 y1 y2
          go_wp2_with (first | (go_at_call 34; (with_reducible refine (CT.out _).mono ?_); rintro e wx ⟨rfl, rfl⟩) | (go_at_call 34; (with_reducible refine (CX.out _).mono ?_); rintro e wx ⟨rfl, rfl⟩))
          refine bodyPost_ret (v := .tuple #[.agg #[.slice none 0 0, .slice none 0 0], .bool false]) (by simp [results, Try.results10, go_sem, j0, j1]) rfl (RAs.no HX.out rfl ?_)
          exact ((G.trans g1).setCell (by show w.heap.size ≤ w.heap.size + 1; omega) _).setCell (by show w.heap.size ≤ w.heap.size + 1; omega) _
        · have hb : (t == 0) = false := by simp [h0]
          clear h0
          go_enter Try.func10, Try.ntmps10
          obtain ⟨k0, k1, _, _⟩ := y1.facts
          go_wp2_with fail
          generalize (w.alloc (.cells #[.slice A v.length c, .slice B h.length d] 30)).alloc (.cells #[.slice none 0 0, .slice none 0 0] 30) = w0 at *
          refine (CV.out _ (hS.grow G)).mono ?_
          rintro e w1 ⟨rfl, g1⟩
          obtain ⟨j0, j1, e0, e1⟩ := (y2.grow g1).facts
          clear k0 k1 y1 y2
          go_wp2_with (first | (go_at_call 34; (with_reducible refine (CT.out _).mono ?_); rintro e wx ⟨rfl, rfl⟩) | (go_at_call 34; (with_reducible refine (CX.out _).mono ?_); rintro e wx ⟨rfl, rfl⟩))
          refine bodyPost_ret (v := .tuple #[.agg #[.slice none 0 0, .slice none 0 0], .bool false]) (by simp [results, Try.results10, go_sem, j0, j1]) rfl (RAs.no HX.out rfl ?_)
          exact ((G.trans g1).setCell (by show w.heap.size ≤ w.heap.size + 1; omega) _).setCell (by show w.heap.size ≤ w.heap.size + 1; omega) _
      | true =>
        by_cases h0 : t = 0
        · have HX := Lib.hid (Pl.sbR_no (HB.out.trans (by simp [h0])))
          have hb : (t == 0) = true := by simp [h0]
          clear h0
          go_enter Try.func10, Try.ntmps10
          obtain ⟨k0, k1, _, _⟩ := y1.facts
          go_wp2_with fail
          generalize (w.alloc (.cells #[.slice A v.length c, .slice B h.length d] 30)).alloc (.cells #[.slice none 0 0, .slice none 0 0] 30) = w0 at *
          refine (CV.out _ (hS.grow G)).mono ?_
          rintro e w1 ⟨rfl, g1⟩
          obtain ⟨j0, j1, e0, e1⟩ := (y2.grow g1).facts
          clear k0 k1 y1 y2
          go_wp2_with (first | (go_at_call 34; (with_reducible refine (CT.out _).mono ?_); rintro e wx ⟨rfl, rfl⟩) | (go_at_call 34; (with_reducible refine (CX.out _).mono ?_); rintro e wx ⟨rfl, rfl⟩))
          refine bodyPost_ret (v := .tuple #[.agg #[.slice none 0 0, .slice none 0 0], .bool false]) (by simp [results, Try.results10, go_sem, j0, j1]) rfl (RAs.no HX.out rfl ?_)
          exact ((G.trans g1).setCell (by show w.heap.size ≤ w.heap.size + 1; omega) _).setCell (by show w.heap.size ≤ w.heap.size + 1; omega) _
        · have HX := Lib.hid (Pl.sbR_ok (HB.out.trans (by simp [h0])))
          have hb : (t == 0) = false := by simp [h0]
          clear h0
          go_enter Try.func10, Try.ntmps10
          obtain ⟨k0, k1, _, _⟩ := y1.facts
          go_wp2_with fail
          generalize (w.alloc (.cells #[.slice A v.length c, .slice B h.length d] 30)).alloc (.cells #[.slice none 0 0, .slice none 0 0] 30) = w0 at *
          have hz0 := y2.lt
          refine (CV.out _ (hS.grow G)).mono ?_
          rintro e w1 ⟨rfl, g1⟩
          clear k0 k1
          obtain ⟨k0, k1, _, _⟩ := (y1.grow g1).facts
          have hz1 := g1.le
          go_wp2_with (first | (go_at_call 34; (with_reducible refine (CT.out _).mono ?_); rintro e wx ⟨rfl, rfl⟩) | (go_at_call 34; (with_reducible refine (CX.out _).mono ?_); rintro e wx ⟨rfl, rfl⟩))
          refine (replaceIn_c A B c d ⟨v, h⟩ t x _ (hS.grow (G.trans g1)) h1 h2).mono ?_
          rintro e w2 ⟨A2, B2, c2, d2, rfl, o2, g2⟩
          obtain ⟨j0, j1, e0, e1⟩ := ((y2.grow g1).grow g2).facts
          have hw : asval A2 B2 c2 d2 (Pl.sbs ⟨v, h⟩ t x) = .agg #[.slice A2 v.length c2, .slice B2 h.length d2] := by simp [asval, Pl.sbs]
          rw [hw]
          clear k0 k1 y1 y2
          go_wp2_with fail
          refine bodyPost_ret (v := .tuple #[.agg #[.slice A2 v.length c2, .slice B2 h.length d2], .bool true]) (by simp [results, Try.results10, go_sem, j0, j1]) rfl ?_
          rw [HX.out]
          refine ⟨A2, B2, c2, d2, by rw [hw], ?_, ?_⟩
          · exact ((o2.far (by show w.heap.size + 1 < _; omega) _).far (by show w.heap.size + 1 < _; omega) _).lo (by omega)
          · exact ((G.trans (g1.trans g2)).setCell (by show w.heap.size ≤ w.heap.size + 1; omega) _).setCell (by show w.heap.size ≤ w.heap.size + 1; omega) _

set_option maxRecDepth 100000 in
set_option maxHeartbeats 1600000 in
theorem sSubstAssertion_c (A B : Option Addr) (c d : Nat) (s : Pl.Asr) (t x : Int) (w : World) (hS : Asrs w A B s) (h1 : s.f.length ≤ 4194304) (h2 : s.a.length ≤ 4194304) :
    Calls Try.prog 8 #[asval A B c d s, .int .i64 t, .int .i64 x] w (RAs w (Pl.sbR s t x)) := by
  obtain ⟨v, h⟩ := s
  have y1 := (Box2.new w 30 (.slice A v.length c) (.slice B h.length d)).grow (show Grow _ ((w.alloc (.cells #[.slice A v.length c, .slice B h.length d] 30)).alloc (.cells #[.slice none 0 0, .slice none 0 0] 30)) from Grow.alloc (Grow.refl _) _)
  have y2 := Box2.new (w.alloc (.cells #[.slice A v.length c, .slice B h.length d] 30)) 30 (.slice none 0 0) (.slice none 0 0)
  simp only [World.size_alloc] at y2
  have G : Grow w ((w.alloc (.cells #[.slice A v.length c, .slice B h.length d] 30)).alloc (.cells #[.slice none 0 0, .slice none 0 0] 30)) := (by repeat (first | exact Grow.refl _ | assumption | refine Grow.alloc ?_ _ | refine Grow.drew ?_ | refine Grow.drewN ?_ _ | refine Grow.trans ?_ (by assumption) | refine Grow.below ?_ (by assumption) (by first | exact Nat.le_refl _ | omega)))
  obtain ⟨bv, hbv⟩ : ∃ b, b = Pl.asv ⟨v, h⟩ := ⟨_, rfl⟩
  obtain ⟨bt, hbt⟩ : ∃ b, b = Pl.tmB t := ⟨_, rfl⟩
  obtain ⟨bx, hbx⟩ : ∃ b, b = Pl.tmB x := ⟨_, rfl⟩
  have CV := Lib.hid (show ∀ W, Asrs W A B ⟨v, h⟩ → Calls Try.prog 28 #[asval A B c d ⟨v, h⟩] W fun e w' => e = .returned (.bool bv) ∧ Grow W w' from fun W k => by rw [hbv]; exact sAssertionValid_c A B c d ⟨v, h⟩ W k h1 h2)
  have CT := Lib.hid (show ∀ W, Calls Try.prog 29 #[.int .i64 t] W fun e w' => e = .returned (.bool bt) ∧ W = w' from fun W => by rw [hbt]; exact l1Is_c t W)
  have CX := Lib.hid (show ∀ W, Calls Try.prog 29 #[.int .i64 x] W fun e w' => e = .returned (.bool bx) ∧ W = w' from fun W => by rw [hbx]; exact l1Is_c x W)
  have HB := Lib.hid (show Pl.sbOk ⟨v, h⟩ t x = (bv && (bt && bx && decide (t ≠ 0))) by unfold Pl.sbOk; rw [hbv, hbt, hbx])
  clear hbv hbt hbx
  cases bv with
  | false =>
    have HX := Lib.hid (Pl.sbR_no (HB.out.trans (by simp)))
    go_enter Try.func8, Try.ntmps8
    obtain ⟨k0, k1, _, _⟩ := y1.facts
    go_wp2_with fail
    generalize (w.alloc (.cells #[.slice A v.length c, .slice B h.length d] 30)).alloc (.cells #[.slice none 0 0, .slice none 0 0] 30) = w0 at *
    refine (CV.out _ (hS.grow G)).mono ?_
    rintro e w1 ⟨rfl, g1⟩
    obtain ⟨j0, j1, e0, e1⟩ := (y2.grow g1).facts
    clear k0 k1 y1 y2
    go_wp2_with (first | (go_at_call 29; (with_reducible refine (CT.out _).mono ?_); rintro e wx ⟨rfl, rfl⟩) | (go_at_call 29; (with_reducible refine (CX.out _).mono ?_); rintro e wx ⟨rfl, rfl⟩))
    refine bodyPost_ret (v := .tuple #[.agg #[.slice none 0 0, .slice none 0 0], .bool false]) (by simp [results, Try.results8, go_sem, j0, j1]) rfl (RAs.no HX.out rfl ?_)
    exact ((G.trans g1).setCell (by show w.heap.size ≤ w.heap.size + 1; omega) _).setCell (by show w.heap.size ≤ w.heap.size + 1; omega) _
  | true => cases bt with
    | false =>
      have HX := Lib.hid (Pl.sbR_no (HB.out.trans (by simp)))
      go_enter Try.func8, Try.ntmps8
      obtain ⟨k0, k1, _, _⟩ := y1.facts
      go_wp2_with fail
      generalize (w.alloc (.cells #[.slice A v.length c, .slice B h.length d] 30)).alloc (.cells #[.slice none 0 0, .slice none 0 0] 30) = w0 at *
      refine (CV.out _ (hS.grow G)).mono ?_
      rintro e w1 ⟨rfl, g1⟩
      obtain ⟨j0, j1, e0, e1⟩ := (y2.grow g1).facts
      clear k0 k1 y1 y2
      go_wp2_with (first | (go_at_call 29; (with_reducible refine (CT.out _).mono ?_); rintro e wx ⟨rfl, rfl⟩) | (go_at_call 29; (with_reducible refine (CX.out _).mono ?_); rintro e wx ⟨rfl, rfl⟩))
      refine bodyPost_ret (v := .tuple #[.agg #[.slice none 0 0, .slice none 0 0], .bool false]) (by simp [results, Try.results8, go_sem, j0, j1]) rfl (RAs.no HX.out rfl ?_)
      exact ((G.trans g1).setCell (by show w.heap.size ≤ w.heap.size + 1; omega) _).setCell (by show w.heap.size ≤ w.heap.size + 1; omega) _
    | true => cases bx with
      | false =>
        have HX := Lib.hid (Pl.sbR_no (HB.out.trans (by simp)))
        by_cases h0 : t = 0
        · have hb : (t == 0) = true := by simp [h0]
          clear h0
          go_enter Try.func8, Try.ntmps8
          obtain ⟨k0, k1, _, _⟩ := y1.facts
          go_wp2_with fail
          generalize (w.alloc (.cells #[.slice A v.length c, .slice B h.length d] 30)).alloc (.cells #[.slice none 0 0, .slice none 0 0] 30) = w0 at *
          refine (CV.out _ (hS.grow G)).mono ?_
          rintro e w1 ⟨rfl, g1⟩
          obtain ⟨j0, j1, e0, e1⟩ := (y2.grow g1).facts
          clear k0 k1 y1 y2
          go_wp2_with (first | (go_at_call 29; (with_reducible refine (CT.out _).mono ?_); rintro e wx ⟨rfl, rfl⟩) | (go_at_call 29; (with_reducible refine (CX.out _).mono ?_); rintro e wx ⟨rfl, rfl⟩))
          refine bodyPost_ret (v := .tuple #[.agg #[.slice none 0 0, .slice none 0 0], .bool false]) (by simp [results, Try.results8, go_sem, j0, j1]) rfl (RAs.no HX.out rfl ?_)
          exact ((G.trans g1).setCell (by show w.heap.size ≤ w.heap.size + 1; omega) _).setCell (by show w.heap.size ≤ w.heap.size + 1; omega) _
        · have hb : (t == 0) = false := by simp [h0]
          clear h0
          go_enter Try.func8, Try.ntmps8
          obtain ⟨k0, k1, _, _⟩ := y1.facts
          go_wp2_with fail
          generalize (w.alloc (.cells #[.slice A v.length c, .slice B h.length d] 30)).alloc (.cells #[.slice none 0 0, .slice none 0 0] 30) = w0 at *
          refine (CV.out _ (hS.grow G)).mono ?_
          rintro e w1 ⟨rfl, g1⟩
          obtain ⟨j0, j1, e0, e1⟩ := (y2.grow g1).facts
          clear k0 k1 y1 y2
          go_wp2_with (first | (go_at_call 29; (with_reducible refine (CT.out _).mono ?_); rintro e wx ⟨rfl, rfl⟩) | (go_at_call 29; (with_reducible refine (CX.out _).mono ?_); rintro e wx ⟨rfl, rfl⟩))
          refine bodyPost_ret (v := .tuple #[.agg #[.slice none 0 0, .slice none 0 0], .bool false]) (by simp [results, Try.results8, go_sem, j0, j1]) rfl (RAs.no HX.out rfl ?_)
          exact ((G.trans g1).setCell (by show w.heap.size ≤ w.heap.size + 1; omega) _).setCell (by show w.heap.size ≤ w.heap.size + 1; omega) _
      | true =>
        by_cases h0 : t = 0
        · have HX := Lib.hid (Pl.sbR_no (HB.out.trans (by simp [h0])))
          have hb : (t == 0) = true := by simp [h0]
          clear h0
          go_enter Try.func8, Try.ntmps8
          obtain ⟨k0, k1, _, _⟩ := y1.facts
          go_wp2_with fail
          generalize (w.alloc (.cells #[.slice A v.length c, .slice B h.length d] 30)).alloc (.cells #[.slice none 0 0, .slice none 0 0] 30) = w0 at *
          refine (CV.out _ (hS.grow G)).mono ?_
          rintro e w1 ⟨rfl, g1⟩
          obtain ⟨j0, j1, e0, e1⟩ := (y2.grow g1).facts
          clear k0 k1 y1 y2
          go_wp2_with (first | (go_at_call 29; (with_reducible refine (CT.out _).mono ?_); rintro e wx ⟨rfl, rfl⟩) | (go_at_call 29; (with_reducible refine (CX.out _).mono ?_); rintro e wx ⟨rfl, rfl⟩))
          refine bodyPost_ret (v := .tuple #[.agg #[.slice none 0 0, .slice none 0 0], .bool false]) (by simp [results, Try.results8, go_sem, j0, j1]) rfl (RAs.no HX.out rfl ?_)
          exact ((G.trans g1).setCell (by show w.heap.size ≤ w.heap.size + 1; omega) _).setCell (by show w.heap.size ≤ w.heap.size + 1; omega) _
        · have HX := Lib.hid (Pl.sbR_ok (HB.out.trans (by simp [h0])))
          have hb : (t == 0) = false := by simp [h0]
          clear h0
          go_enter Try.func8, Try.ntmps8
          obtain ⟨k0, k1, _, _⟩ := y1.facts
          go_wp2_with fail
          generalize (w.alloc (.cells #[.slice A v.length c, .slice B h.length d] 30)).alloc (.cells #[.slice none 0 0, .slice none 0 0] 30) = w0 at *
          have hz0 := y2.lt
          refine (CV.out _ (hS.grow G)).mono ?_
          rintro e w1 ⟨rfl, g1⟩
          clear k0 k1
          obtain ⟨k0, k1, _, _⟩ := (y1.grow g1).facts
          have hz1 := g1.le
          go_wp2_with (first | (go_at_call 29; (with_reducible refine (CT.out _).mono ?_); rintro e wx ⟨rfl, rfl⟩) | (go_at_call 29; (with_reducible refine (CX.out _).mono ?_); rintro e wx ⟨rfl, rfl⟩))
          refine (l3Subst_c A B c d ⟨v, h⟩ t x _ (hS.grow (G.trans g1)) h1 h2).mono ?_
          rintro e w2 ⟨A2, B2, c2, d2, rfl, o2, g2⟩
          obtain ⟨j0, j1, e0, e1⟩ := ((y2.grow g1).grow g2).facts
          have hw : asval A2 B2 c2 d2 (Pl.sbs ⟨v, h⟩ t x) = .agg #[.slice A2 v.length c2, .slice B2 h.length d2] := by simp [asval, Pl.sbs]
          rw [hw]
          clear k0 k1 y1 y2
          go_wp2_with fail
          refine bodyPost_ret (v := .tuple #[.agg #[.slice A2 v.length c2, .slice B2 h.length d2], .bool true]) (by simp [results, Try.results8, go_sem, j0, j1]) rfl ?_
          rw [HX.out]
          refine ⟨A2, B2, c2, d2, by rw [hw], ?_, ?_⟩
          · exact ((o2.far (by show w.heap.size + 1 < _; omega) _).far (by show w.heap.size + 1 < _; omega) _).lo (by omega)
          · exact ((G.trans (g1.trans g2)).setCell (by show w.heap.size ≤ w.heap.size + 1; omega) _).setCell (by show w.heap.size ≤ w.heap.size + 1; omega) _

end Go.Proofs.Ytlcijjbeikoppaa
