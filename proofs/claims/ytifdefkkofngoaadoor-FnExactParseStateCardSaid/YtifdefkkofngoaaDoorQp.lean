/- Contract of the reference's ParseState. Conditions: the text is shorter than the library's bound. -/
import Derived.Test.YtifdefkkofngoaaDoorBl
import Derived.Test.YtifdefkkofngoaaDoorFss
import Derived.Test.YtifdefkkofngoaaDoorWd
import Derived.Test.YtifdefkkofngoaaDoorQst
namespace Go.Proofs.YtifdefkkofngoaaDoor
open Go.RowKit
set_option linter.unusedVariables false

theorem qSl_b1 {ws : List (List UInt8)} {k : Nat} (hk : k < ws.length) {x : List UInt8} (hx : x = ws[k]) {n : Int} (hn : n = Pl.dgt x 2) (h0 : n < 0) (s : Pl.St) : Pl.qSl (ws.drop k) k s = none := by
  rw [List.drop_eq_getElem_cons hk, Pl.qSl, ← hx, ← hn, if_pos h0]
theorem qSl_v {ws : List (List UInt8)} {k : Nat} (hk : k < ws.length) {x : List UInt8} (hx : x = ws[k]) {n : Int} (hn : n = Pl.dgt x 2) (h0 : ¬ n < 0) (h8 : k < 8) (s : Pl.St) : Pl.qSl (ws.drop k) k s = Pl.qSl (ws.drop (k + 1)) (k + 1) ⟨s.v.set k n, s.h⟩ := by
  rw [List.drop_eq_getElem_cons hk, Pl.qSl, ← hx, ← hn, if_neg h0, if_pos h8]
theorem qSl_b2 {ws : List (List UInt8)} {k : Nat} (hk : k < ws.length) {x : List UInt8} (hx : x = ws[k]) {n a : Int} (hn : n = Pl.dgt x 2) (ha : a = Pl.dgt x 0) (h0 : ¬ n < 0) (h8 : ¬ k < 8) (h1 : a < 1) (s : Pl.St) : Pl.qSl (ws.drop k) k s = none := by
  rw [List.drop_eq_getElem_cons hk, Pl.qSl, ← hx, ← hn, if_neg h0, if_neg h8, ← ha, if_pos h1]
theorem qSl_c {ws : List (List UInt8)} {k : Nat} (hk : k < ws.length) {x : List UInt8} (hx : x = ws[k]) {n a : Int} (hn : n = Pl.dgt x 2) (ha : a = Pl.dgt x 0) (h0 : ¬ n < 0) (h8 : ¬ k < 8) (h1 : ¬ a < 1) (s : Pl.St) : Pl.qSl (ws.drop k) k s = Pl.qSl (ws.drop (k + 1)) (k + 1) ⟨s.v, s.h.set (a - 1).toNat n⟩ := by
  rw [List.drop_eq_getElem_cons hk, Pl.qSl, ← hx, ← hn, if_neg h0, if_neg h8, ← ha, if_neg h1]
theorem qS_long {s : List UInt8} (h : ¬ s.length ≤ 100) : Pl.pS s = (Pl.emp, false) := by rw [← Pl.qS_pS]; unfold Pl.qS; rw [if_pos (by omega)]
theorem qS_none {s : List UInt8} (h : Pl.qSl (Pl.wordsOf s) 0 Pl.blank = none) : Pl.pS s = (Pl.emp, false) := by rw [← Pl.qS_pS]; unfold Pl.qS; rw [h]; split <;> rfl
theorem qS_yes {s : List UInt8} {a : Pl.St} (h3 : s.length ≤ 100) (h : Pl.qSl (Pl.wordsOf s) 0 Pl.blank = some a) (h1 : Pl.fmtS a = s) : Pl.pS s = (a, true) := by
  rw [← Pl.qS_pS]; unfold Pl.qS; rw [h, if_neg (by omega)]; simp only; rw [if_pos h1]
theorem qS_no {s : List UInt8} {a : Pl.St} (h : Pl.qSl (Pl.wordsOf s) 0 Pl.blank = some a) (h1 : ¬ Pl.fmtS a = s) : Pl.pS s = (Pl.emp, false) := by
  rw [← Pl.qS_pS]; unfold Pl.qS; rw [h]; split
  · rfl
  · simp only; rw [if_neg h1]


set_option maxRecDepth 100000 in
set_option maxHeartbeats 6400000 in
theorem sParseState_c (s : List UInt8) (w : World) (hs : s.length ≤ 2000000) :
    Calls Tryd.prog 14 #[.string (Pl.str s)] w (RSt w (Pl.pS s)) := by
  have hsz : (Pl.str s).size = s.length := Pl.str_size s
  have y2 := Box2.new w 27 (.slice none 0 0) (.slice none 0 0)
  have G : Grow w (w.alloc (.cells #[.slice none 0 0, .slice none 0 0] 27)) := (by repeat (first | exact Grow.refl _ | assumption | refine Grow.alloc ?_ _ | refine Grow.drew ?_ | refine Grow.drewN ?_ _ | refine Grow.trans ?_ (by assumption) | refine Grow.below ?_ (by assumption) (by first | exact Nat.le_refl _ | omega)))
  obtain ⟨ws, hws⟩ : ∃ ws, ws = Pl.wordsOf s := ⟨_, rfl⟩
  have C0 := Lib.hid (show ∀ W, Calls Tryd.prog 46 #[.string (Pl.str s)] W fun e w' => ∃ A c, e = .returned (.slice A ws.length c) ∧ OTexts w' W.heap.size (.slice A ws.length c) ws ∧ ws.length ≤ s.length + 1 ∧ Grow W w' from fun W => by rw [hws]; exact l18Words_c s W hs)
  obtain ⟨R, hR⟩ : ∃ R, R = Pl.qSl ws 0 Pl.blank := ⟨_, rfl⟩
  have HN := Lib.hid (show R = none → Pl.pS s = (Pl.emp, false) from fun e => qS_none (by rw [← hws, ← hR]; exact e))
  have HA := Lib.hid (show ∀ a, R = some a → s.length ≤ 100 → Pl.fmtS a = s → Pl.pS s = (a, true) from fun a e h3 h1 => qS_yes h3 (by rw [← hws, ← hR]; exact e) h1)
  have HB := Lib.hid (show ∀ a, R = some a → ¬ Pl.fmtS a = s → Pl.pS s = (Pl.emp, false) from fun a e h1 => qS_no (by rw [← hws, ← hR]; exact e) h1)
  have HR := Lib.hid (show Pl.qSl (ws.drop 0) 0 Pl.blank = R by rw [hR]; rfl)
  clear hws hR
  go_enter Tryd.func14, Tryd.ntmps14
  go_wp2_with fail
  have hb1 := Lib.hid (show w.heap.size < (w.alloc (.cells #[.slice none 0 0, .slice none 0 0] 27)).heap.size from y2.lt)
  generalize w.alloc (.cells #[.slice none 0 0, .slice none 0 0] 27) = w1 at *
  (with_reducible refine (l2BlankV_c _).mono ?_)
  rintro e w2 ⟨A, B, c, d, v, h, rfl, o2, ⟨hv, hh⟩, g2⟩
  have hv8 : v.length = 8 := by rw [hv]; rfl
  have hh8 : h.length = 8 := by rw [hh]; rfl
  obtain ⟨gA, rfl, bA, bA2⟩ := own_some o2.v (by rw [hv8]; omega)
  obtain ⟨gB, rfl, bB, bB2⟩ := own_some o2.h (by rw [hh8]; omega)
  have y5 := Box2.new w2 27 (.slice (some ⟨gA, 0, none⟩) 8 c) (.slice (some ⟨gB, 0, none⟩) 8 d)
  have q : Grow w1 (w2.alloc (.cells #[.slice (some ⟨gA, 0, none⟩) 8 c, .slice (some ⟨gB, 0, none⟩) 8 d] 27)) := (by repeat (first | exact Grow.refl _ | assumption | refine Grow.alloc ?_ _ | refine Grow.drew ?_ | refine Grow.drewN ?_ _ | refine Grow.trans ?_ (by assumption) | refine Grow.below ?_ (by assumption) (by first | exact Nat.le_refl _ | omega)))
  replace o2 := o2.grow (show Grow _ (w2.alloc (.cells #[.slice (some ⟨gA, 0, none⟩) 8 c, .slice (some ⟨gB, 0, none⟩) 8 d] 27)) from Grow.alloc (Grow.refl _) _)
  replace y2 := y2.grow q
  replace G := G.trans q
  clear g2 q
  have HS0 := Lib.hid (show v.length = 8 ∧ h.length = 8 ∧ Pl.qSl (ws.drop 0) 0 ⟨v, h⟩ = R from ⟨hv8, hh8, by rw [hv, hh]; exact HR.out⟩)
  clear hv hh HR
  have HW3 := Lib.hid (show w2.heap.size < (w2.alloc (.cells #[.slice (some ⟨gA, 0, none⟩) 8 c, .slice (some ⟨gB, 0, none⟩) 8 d] 27)).heap.size from y5.lt)
  go_wp2_with fail
  clear hv8 hh8
  generalize w2.alloc (.cells #[.slice (some ⟨gA, 0, none⟩) 8 c, .slice (some ⟨gB, 0, none⟩) 8 d] 27) = w3 at *
  (with_reducible refine (C0.out _).mono ?_)
  rintro e w4 ⟨A4, c4, rfl, ow, hwl, g4⟩
  replace y2 := y2.grow g4
  replace y5 := y5.grow g4
  replace o2 := o2.grow g4
  replace G := G.trans g4
  have h23 : w2.heap.size < w3.heap.size := HW3.out
  clear g4 C0
  by_cases h3 : s.length ≤ 100
  · have h3' : ¬ (100 : Int) < (s.length : Int) := by omega
    go_wp2_with fail
    go_loopw [6] (fun i wr => ∃ (k : Nat) (v h : List Int), k ≤ ws.length ∧ i = .int .i64 k ∧ Hid (v.length = 8 ∧ h.length = 8 ∧ Pl.qSl (ws.drop k) k ⟨v, h⟩ = R) ∧ OSt wr w1.heap.size (some ⟨gA, 0, none⟩) (some ⟨gB, 0, none⟩) c d ⟨v, h⟩ ∧ Box2 wr w2.heap.size 27 (.slice (some ⟨gA, 0, none⟩) 8 c) (.slice (some ⟨gB, 0, none⟩) 8 d) ∧ Box2 wr w.heap.size 27 (.slice none 0 0) (.slice none 0 0) ∧ OTexts wr w3.heap.size (.slice A4 ws.length c4) ws ∧ Grow w wr) (fun i _ => ws.length - (intOf i).toNat)
    case atStart => exact ⟨0, v, h, Nat.zero_le _, rfl, HS0, o2, y5, y2, ow, G⟩
    case round =>
      clear o2 y5 y2 ow G HS0
      obtain ⟨k, v, h, hk, rfl, HS, o5, y5, y2, ow, G⟩ := hrel
      obtain ⟨j0, j1, _, _⟩ := y5.facts
      by_cases hlt : k < ws.length
      · have hk1 : (k : Int) < (ws.length : Int) := by omega
        have hk2 : (0 : Int) ≤ (k : Int) := by omega
        obtain ⟨bb, off, rfl, t0⟩ := (OTexts.texts rfl ow).at_ hlt
        obtain ⟨x, hx⟩ : ∃ x, x = ws[k] := ⟨_, rfl⟩
        rw [← hx] at t0
        obtain ⟨n, hn⟩ : ∃ n, n = Pl.dgt x 2 := ⟨_, rfl⟩
        obtain ⟨a, ha⟩ : ∃ a, a = Pl.dgt x 0 := ⟨_, rfl⟩
        have rn : -1 ≤ n ∧ n ≤ 8 := by rw [hn]; exact Pl.dgt_rng _ _
        have ra : -1 ≤ a ∧ a ≤ 8 := by rw [ha]; exact Pl.dgt_rng _ _
        have C2 := Lib.hid (show ∀ W, Calls Tryd.prog 47 #[.string (Pl.str x), .int .i64 2] W fun e w' => e = .returned (.int .i64 n) ∧ W = w' from fun W => by rw [hn]; exact l2Digit_c x 2 W (by omega))
        have C3 := Lib.hid (show ∀ W, Calls Tryd.prog 47 #[.string (Pl.str x), .int .i64 0] W fun e w' => e = .returned (.int .i64 a) ∧ W = w' from fun W => by rw [ha]; exact l2Digit_c x 0 W (by omega))
        have HX0 := Lib.hid hx
        have HNn := Lib.hid hn
        have HNa := Lib.hid ha
        clear hx hn ha
        go_wp2_with fail
        (with_reducible refine (C2.out _).mono ?_)
        rintro e w9 ⟨rfl, rfl⟩
        by_cases hn0 : n < 0
        · have HX := Lib.hid (show Pl.pS s = (Pl.emp, false) from HN.out (by rw [← HS.out.2.2]; exact qSl_b1 hlt HX0.out HNn.out hn0 _))
          obtain ⟨p0, p1, f0, f1⟩ := y2.facts
          go_wp2_with fail
          refine bodyPost_ret (v := .tuple #[.agg #[.slice none 0 0, .slice none 0 0], .bool false]) (by simp [results, Tryd.results14, go_sem, p0, p1]) rfl (RSt.no HX.out rfl ?_)
          exact (G.setCell (Nat.le_refl _) _).setCell (Nat.le_refl _) _
        · by_cases hk8 : k < 8
          · have hk9 : (k : Int) < 8 := by omega
            have hkv : k < v.length := by rw [HS.out.1]; exact hk8
            have HV := Lib.hid (show (v.set k n).length = 8 ∧ h.length = 8 ∧ Pl.qSl (ws.drop (k + 1)) (k + 1) ⟨v.set k n, h⟩ = R from ⟨by rw [List.length_set, HS.out.1], HS.out.2.1, by rw [← HS.out.2.2]; exact (qSl_v hlt HX0.out HNn.out hn0 hk8 ⟨v, h⟩).symm⟩)
            obtain ⟨z9, c0⟩ : ∃ y, wr.cell? ⟨gA, k, none⟩ = some y := ⟨.int .i64 v[k], own_cellAt o5.v (by simp [hkv])⟩
            have f0 : wr.frozen? ⟨gA, k, none⟩ = false := World.ownsRow.frozenAt o5.v k
            clear hkv
            go_wp2_with fail
            go_roundw
            case rel => exact ⟨k + 1, v.set k n, h, by omega, by go_num, HV, o5.setV (k := k) n, y5.far (p := ⟨gA, k, none⟩) (by show w2.heap.size ≠ gA; omega) _, y2.far (p := ⟨gA, k, none⟩) (by show w.heap.size ≠ gA; have := hb1.out; omega) _, own_far_lo (p := ⟨gA, k, none⟩) ow (by show gA < w3.heap.size; omega) _, G.setCell (p := ⟨gA, k, none⟩) (by show w.heap.size ≤ gA; have := hb1.out; omega) _⟩
            case measure => simp [intOf]; omega
          · have hk9 : ¬ (k : Int) < 8 := by omega
            go_wp2_with fail
            (with_reducible refine (C3.out _).mono ?_)
            rintro e w9 ⟨rfl, rfl⟩
            by_cases ha1 : a < 1
            · have HX := Lib.hid (show Pl.pS s = (Pl.emp, false) from HN.out (by rw [← HS.out.2.2]; exact qSl_b2 hlt HX0.out HNn.out HNa.out (by omega) (by omega) (by omega) _))
              obtain ⟨p0, p1, f0, f1⟩ := y2.facts
              go_wp2_with fail
              refine bodyPost_ret (v := .tuple #[.agg #[.slice none 0 0, .slice none 0 0], .bool false]) (by simp [results, Tryd.results14, go_sem, p0, p1]) rfl (RSt.no HX.out rfl ?_)
              exact (G.setCell (Nat.le_refl _) _).setCell (Nat.le_refl _) _
            · have HOK := Lib.hid (qSl_c hlt HX0.out HNn.out HNa.out (by omega) (by omega) (by omega) ⟨v, h⟩)
              clear HNa C3
              obtain ⟨i, hi⟩ : ∃ i : Nat, a = (i : Int) + 1 := ⟨(a - 1).toNat, by omega⟩
              subst hi
              have hi8 : i < 8 := by omega
              have hi1 : (i : Int) < 8 := by omega
              have hi2 : (0 : Int) ≤ (i : Int) := by omega
              have hw : IntKind.i64.wrap ((i : Int) + 1 - 1) = (i : Int) := by rw [IntWalk.i64_in _ (by omega)]; omega
              have hw2 : IntKind.i64.wrap (i : Int) = (i : Int) := IntWalk.i64_in _ (by omega)
              have hkh : i < h.length := by rw [HS.out.2.1]; exact hi8
              have HV := Lib.hid (show v.length = 8 ∧ (h.set i n).length = 8 ∧ Pl.qSl (ws.drop (k + 1)) (k + 1) ⟨v, h.set i n⟩ = R from ⟨HS.out.1, by rw [List.length_set, HS.out.2.1], by
                have hh := HOK.out
                rw [show ((i : Int) + 1 - 1).toNat = i from by omega] at hh
                rw [← HS.out.2.2]; exact hh.symm⟩)
              obtain ⟨z9, c0⟩ : ∃ y, wr.cell? ⟨gB, i, none⟩ = some y := ⟨.int .i64 h[i], own_cellAt o5.h (by simp [hkh])⟩
              have f0 : wr.frozen? ⟨gB, i, none⟩ = false := World.ownsRow.frozenAt o5.h i
              clear hkh
              go_wp2_with fail
              go_roundw
              case rel => exact ⟨k + 1, v, h.set i n, by omega, by go_num, HV, o5.setH (k := i) n, y5.far (p := ⟨gB, i, none⟩) (by show w2.heap.size ≠ gB; omega) _, y2.far (p := ⟨gB, i, none⟩) (by show w.heap.size ≠ gB; have := hb1.out; omega) _, own_far_lo (p := ⟨gB, i, none⟩) ow (by show gB < w3.heap.size; omega) _, G.setCell (p := ⟨gB, i, none⟩) (by show w.heap.size ≤ gB; have := hb1.out; omega) _⟩
              case measure => simp [intOf]; omega
      · have hk1 : ¬ (k : Int) < (ws.length : Int) := by omega
        have hR : R = some ⟨v, h⟩ := by
          rw [← HS.out.2.2, List.drop_eq_nil_of_le (by omega), Pl.qSl]
        obtain ⟨t, ht⟩ : ∃ t, t = Pl.fmtS ⟨v, h⟩ := ⟨_, rfl⟩
        have CF := Lib.hid (show ∀ W, Sts W (some ⟨gA, 0, none⟩) (some ⟨gB, 0, none⟩) ⟨v, h⟩ → Calls Tryd.prog 10 #[.agg #[.slice (some ⟨gA, 0, none⟩) 8 c, .slice (some ⟨gB, 0, none⟩) 8 d]] W fun e w' => e = .returned (.string (Pl.str t)) ∧ Grow W w' from fun W k => by
          have := sFormatState_c (some ⟨gA, 0, none⟩) (some ⟨gB, 0, none⟩) c d ⟨v, h⟩ W k (by show v.length ≤ _; rw [HS.out.1]; omega) (by show h.length ≤ _; rw [HS.out.2.1]; omega)
          rw [ht]
          rw [show sval (some ⟨gA, 0, none⟩) (some ⟨gB, 0, none⟩) c d ⟨v, h⟩ = .agg #[.slice (some ⟨gA, 0, none⟩) v.length c, .slice (some ⟨gB, 0, none⟩) h.length d] from rfl, HS.out.1, HS.out.2.1] at this
          exact this)
        have HA2 := Lib.hid (show t = s → Pl.pS s = (⟨v, h⟩, true) from fun h1 => HA.out _ hR h3 (by rw [← ht]; exact h1))
        have HB2 := Lib.hid (show ¬ t = s → Pl.pS s = (Pl.emp, false) from fun h1 => HB.out _ hR (by rw [← ht]; exact h1))
        clear ht hR HA HB HN
        go_wp2_with fail
        (with_reducible refine (CF.out _ o5.st).mono ?_)
        rintro e w9 ⟨rfl, g9⟩
        replace y2 := y2.grow g9
        replace y5 := y5.grow g9
        replace o5 := o5.grow g9
        replace G := G.trans g9
        clear g9 j0 j1
        by_cases hts : t = s
        · have hc0 := str_yes hts
          have hc1 : (Pl.str t).toList = (Pl.str s).toList := eq_of_beq hc0
          have HX := Lib.hid (HA2.out hts)
          obtain ⟨j0, j1, _, _⟩ := y5.facts
          obtain ⟨p0, p1, f0, f1⟩ := y2.facts
          clear hts
          go_wp2_with fail
          refine bodyPost_ret (v := .tuple #[.agg #[.slice (some ⟨gA, 0, none⟩) 8 c, .slice (some ⟨gB, 0, none⟩) 8 d], .bool true]) (by simp [results, Tryd.results14, go_sem, p0, p1]) rfl (show RSt w (Pl.pS s) _ _ from ⟨some ⟨gA, 0, none⟩, some ⟨gB, 0, none⟩, c, d, ?_, ?_, (G.setCell (Nat.le_refl _) _).setCell (Nat.le_refl _) _⟩)
          · rw [HX.out]
            show _ = Ending.returned (.tuple #[.agg #[.slice _ v.length c, .slice _ h.length d], .bool true])
            rw [HS.out.1, HS.out.2.1]
          · rw [HX.out]
            have := hb1.out
            exact ((o5.far (by show w.heap.size < _; omega) _).far (by show w.heap.size < _; omega) _).lo (by omega)
        · have hc0 := str_no hts
          have hc1 : ¬ (Pl.str t).toList = (Pl.str s).toList := ne_of_beq_false hc0
          have HX := Lib.hid (HB2.out hts)
          clear hts
          obtain ⟨p0, p1, f0, f1⟩ := y2.facts
          go_wp2_with fail
          refine bodyPost_ret (v := .tuple #[.agg #[.slice none 0 0, .slice none 0 0], .bool false]) (by simp [results, Tryd.results14, go_sem, p0, p1]) rfl (RSt.no HX.out rfl ?_)
          exact (G.setCell (Nat.le_refl _) _).setCell (Nat.le_refl _) _
  · have h3' : (100 : Int) < (s.length : Int) := by omega
    have HX := Lib.hid (qS_long h3)
    obtain ⟨p0, p1, f0, f1⟩ := y2.facts
    go_wp2_with fail
    refine bodyPost_ret (v := .tuple #[.agg #[.slice none 0 0, .slice none 0 0], .bool false]) (by simp [results, Tryd.results14, go_sem, p0, p1]) rfl (RSt.no HX.out rfl ?_)
    exact (G.setCell (Nat.le_refl _) _).setCell (Nat.le_refl _) _

end Go.Proofs.YtifdefkkofngoaaDoor
