/- The reference's empty state; its digit. No conditions. -/
import Derived.Test.YtifdefkkofngoaaDoorDrawS
import Derived.Test.YtifdefkkofngoaaDoorPg
import Derived.Test.YtifdefkkofngoaaDoorFssA
import Derived.Test.YtifdefkkofngoaaDoorWd
import Derived.Test.YtifdefkkofngoaaDoorQstA
namespace Go.Proofs.YtifdefkkofngoaaDoor
open Go.RowKit
set_option linter.unusedVariables false

set_option maxRecDepth 100000 in
set_option maxHeartbeats 1600000 in
theorem l2BlankV_c (w : World) : Calls Tryd.prog 45 #[] w fun e w' => ∃ A B c d v h, e = .returned (sval A B c d ⟨v, h⟩) ∧ OSt w' w.heap.size A B c d ⟨v, h⟩ ∧ (v = List.replicate 8 0 ∧ h = List.replicate 8 (-1)) ∧ Grow w w' := by
  obtain ⟨i0, hi, hz0, hz1, hz2⟩ := info_parts int_info
  have y0 := (Box2.new w 27 (.slice none 0 0) (.slice none 0 0)).grow (show Grow _ ((w.alloc (.cells #[.slice none 0 0, .slice none 0 0] 27)).alloc (.cells #[.slice none 0 0, .slice none 0 0] 27)) from Grow.alloc (Grow.refl _) _)
  have y1 := Box2.new (w.alloc (.cells #[.slice none 0 0, .slice none 0 0] 27)) 27 (.slice none 0 0) (.slice none 0 0)
  have G1 : Grow w ((w.alloc (.cells #[.slice none 0 0, .slice none 0 0] 27)).alloc (.cells #[.slice none 0 0, .slice none 0 0] 27)) := (by repeat (first | exact Grow.refl _ | assumption | refine Grow.alloc ?_ _ | refine Grow.drew ?_ | refine Grow.drewN ?_ _ | refine Grow.trans ?_ (by assumption) | refine Grow.below ?_ (by assumption) (by first | exact Nat.le_refl _ | omega)))
  have hsz : w.heap.size + 2 ≤ ((w.alloc (.cells #[.slice none 0 0, .slice none 0 0] 27)).alloc (.cells #[.slice none 0 0, .slice none 0 0] 27)).heap.size := by simp
  simp only [World.size_alloc] at y1
  go_enter Tryd.func45, Tryd.ntmps45
  go_wp2_with fail
  generalize (w.alloc (.cells #[.slice none 0 0, .slice none 0 0] 27)).alloc (.cells #[.slice none 0 0, .slice none 0 0] 27) = w1 at *
  go_loopw [2] (fun i wr => ∃ k : Nat, k ≤ 8 ∧ i = .int .i64 k ∧ Grow w wr ∧ w.heap.size + 2 ≤ wr.heap.size ∧ Box2 wr w.heap.size 27 (.slice none 0 0) (.slice none 0 0) ∧ ∃ (l : List Int) (A : Option Addr) (c : Nat), Hid (l = List.replicate k 0) ∧ Box2 wr (w.heap.size + 1) 27 (.slice A l.length c) (.slice none 0 0) ∧ OInts wr (w.heap.size + 2) (.slice A l.length c) l) (fun i _ => 8 - (intOf i).toNat)
  case atStart => exact ⟨0, by omega, rfl, G1, hsz, y0, [], none, 0, Lib.hid rfl, y1, ointsNil _ _⟩
  case round =>
    clear y0 y1 G1 hsz
    obtain ⟨k, hk, rfl, hg, hs, y0, l, A, c, hl, y1, o1⟩ := hrel
    obtain ⟨k0, k1, e0, e1⟩ := y1.facts
    have HL := hl
    have hl8 : l.length ≤ 8 := by rw [HL.out, List.length_replicate]; exact hk
    clear hl
    by_cases hlt : k < 8
    · have hk1 : (k : Int) < 8 := by omega
      go_wp2_with ((at_builtin; go_must (refine wpList_append_src _ rfl _ _ 22 rfl (w.heap.size + 2) 3 i0 _ 1 8 Tryd.underlying22 hi hz0 hz1 hz2 rfl (by omega) _ l.length (l.map (Value.int .i64)) rfl (own_grow o1 (by repeat (first | exact Grow.refl _ | assumption | refine Grow.alloc ?_ _ | refine Grow.drew ?_ | refine Grow.drewN ?_ _ | refine Grow.trans ?_ (by assumption) | refine Grow.below ?_ (by assumption) (by first | exact Nat.le_refl _ | omega)))) _ 1 1 [.int .i64 0] rfl rfl (Cells.block (heap_alloc_new _ _)) (by intro u hu; rw [List.mem_singleton.1 hu]; rfl) (by unfold maxLen; omega) (by omega) (by simp; omega) (l.length + 1) rfl ((l ++ [0]).map (Value.int .i64)) (by simp) ?_; intro A3 c3 w3 ho3 _ _ hb3)); have z1 : Box2 w3 (w.heap.size + 1) 27 (.slice A l.length c) (.slice none 0 0) := (y1.grow (show Grow wr (wr.alloc _) from Grow.alloc (Grow.refl _) _)).below hb3 (by omega); obtain ⟨j0, j1, f0, f1⟩ := z1.facts)
      go_roundw
      case rel =>
        have hG : Grow w w3 := (hg.alloc _).below hb3 (by omega)
        have hs3 := hb3.size
        simp only [World.size_alloc] at hs3
        refine ⟨k + 1, by omega, by go_num, hG.setCell (by show w.heap.size ≤ w.heap.size + 1; omega) _, by show w.heap.size + 2 ≤ (w3.setCell _ _).heap.size; simp [World.setCell]; omega, ?_, l ++ [0], A3, c3, Lib.hid (by rw [HL.out, List.replicate_succ']), by simpa using z1.set0 (.slice A3 (l.length + 1) c3), ointsSnoc (own_far_lo ho3 (by show w.heap.size + 1 < w.heap.size + 2; omega) _)⟩
        exact ((y0.grow (Grow.alloc (Grow.refl _) _)).below hb3 (by omega)).far (by show w.heap.size ≠ w.heap.size + 1; omega) _
      case measure => simp [intOf]; omega
    · have hk1 : (8 : Int) ≤ (k : Int) := by omega
      have HL8 := Lib.hid (show l = List.replicate 8 0 by rw [HL.out, show k = 8 by omega])
      go_wp2_with fail
      clear k0 k1 e0 e1
      obtain ⟨wo, rfl⟩ : ∃ wo : World, wo = wr := ⟨_, rfl⟩
      have bA := own_bd o1
      go_loopw [3] (fun i wr => ∃ k : Nat, k ≤ 8 ∧ i = .int .i64 k ∧ Grow w wr ∧ wo.heap.size ≤ wr.heap.size ∧ Box2 wr w.heap.size 27 (.slice none 0 0) (.slice none 0 0) ∧ OInts wr (w.heap.size + 2) (.slice A l.length c) l ∧ ∃ (m : List Int) (B : Option Addr) (d : Nat), Hid (m = List.replicate k (-1)) ∧ Box2 wr (w.heap.size + 1) 27 (.slice A l.length c) (.slice B m.length d) ∧ OInts wr wo.heap.size (.slice B m.length d) m) (fun i _ => 8 - (intOf i).toNat)
      case atStart => exact ⟨0, by omega, rfl, hg, Nat.le_refl _, y0, o1, [], none, 0, Lib.hid rfl, y1, ointsNil _ _⟩
      case round =>
        clear hg y0 y1 o1
        obtain ⟨j, hj, rfl, hg, hsr, y0, o1, m, B, d, hm, y1, o2⟩ := hrel
        obtain ⟨k0, k1, e0, e1⟩ := y1.facts
        have HM := hm
        have hm8 : m.length ≤ 8 := by rw [HM.out, List.length_replicate]; exact hj
        clear hm
        by_cases hjl : j < 8
        · have hj1 : (j : Int) < 8 := by omega
          go_wp2_with ((at_builtin; go_must (refine wpList_append_src _ rfl _ _ 22 rfl wo.heap.size 3 i0 _ 1 8 Tryd.underlying22 hi hz0 hz1 hz2 rfl (by omega) _ m.length (m.map (Value.int .i64)) rfl (own_grow o2 (by repeat (first | exact Grow.refl _ | assumption | refine Grow.alloc ?_ _ | refine Grow.drew ?_ | refine Grow.drewN ?_ _ | refine Grow.trans ?_ (by assumption) | refine Grow.below ?_ (by assumption) (by first | exact Nat.le_refl _ | omega)))) _ 1 1 [.int .i64 (-1)] rfl rfl (Cells.block (heap_alloc_new _ _)) (by intro u hu; rw [List.mem_singleton.1 hu]; rfl) (by unfold maxLen; omega) (by omega) (by simp; omega) (m.length + 1) rfl ((m ++ [(-1)]).map (Value.int .i64)) (by simp) ?_; intro A3 c3 w3 ho3 _ _ hb3)); have z1 : Box2 w3 (w.heap.size + 1) 27 (.slice A l.length c) (.slice B m.length d) := (y1.grow (show Grow wr (wr.alloc _) from Grow.alloc (Grow.refl _) _)).below hb3 (by omega); obtain ⟨j0, j1, f0, f1⟩ := z1.facts)
          go_roundw
          case rel =>
            have hG : Grow w w3 := (hg.alloc _).below hb3 (by omega)
            have hs3 := hb3.size
            simp only [World.size_alloc] at hs3
            refine ⟨j + 1, by omega, by go_num, hG.setCell (by show w.heap.size ≤ w.heap.size + 1; omega) _, by show wo.heap.size ≤ (w3.setCell _ _).heap.size; simp [World.setCell]; omega, ?_, ?_, m ++ [-1], A3, c3, Lib.hid (by rw [HM.out, List.replicate_succ']), by simpa using z1.set1 (.slice A3 (m.length + 1) c3), ointsSnoc (own_far_lo ho3 (by show w.heap.size + 1 < wo.heap.size; omega) _)⟩
            · exact ((y0.grow (Grow.alloc (Grow.refl _) _)).below hb3 (by omega)).far (by show w.heap.size ≠ w.heap.size + 1; omega) _
            · exact own_far_lo (own_below (own_grow o1 (Grow.alloc (Grow.refl _) _)) hb3 (fun k hk => (bA k hk).2)) (by show w.heap.size + 1 < w.heap.size + 2; omega) _
          case measure => simp [intOf]; omega
        · have hj1 : (8 : Int) ≤ (j : Int) := by omega
          have HM8 := Lib.hid (show m = List.replicate 8 (-1) by rw [HM.out, show j = 8 by omega])
          obtain ⟨j0, j1, f0, f1⟩ := y0.facts
          go_wp2_with fail
          refine bodyPost_ret (v := .agg #[.slice A l.length c, .slice B m.length d]) (by simp [results, Tryd.results45, go_sem, j0, j1]) rfl ⟨A, B, c, d, l, m, rfl, ⟨?_, ?_, ?_⟩, ⟨HL8.out, HM8.out⟩, ?_⟩
          · exact own_lo (own_far_lo (own_far_lo o1 (by show w.heap.size < w.heap.size + 2; omega) _) (by show w.heap.size < w.heap.size + 2; omega) _) (by omega)
          · exact own_lo (own_far_lo (own_far_lo o2 (by show w.heap.size < wo.heap.size; omega) _) (by show w.heap.size < wo.heap.size; omega) _) (by omega)
          · exact Bd.apart bA (own_bd o2) (.inl (Nat.le_refl _))
          · exact (hg.setCell (Nat.le_refl _) _).setCell (Nat.le_refl _) _

theorem dgt_no {s : List UInt8} {i : Nat} (h : ¬ i < s.length) : Pl.dgt s i = -1 := by unfold Pl.dgt; rw [List.getElem?_eq_none (by omega)]
theorem dgt_at {s : List UInt8} {i : Nat} (h : i < s.length) : Pl.dgt s i = if 48 ≤ s[i] ∧ s[i] ≤ 56 then (s[i].toNat : Int) - 48 else -1 := by unfold Pl.dgt; rw [List.getElem?_eq_getElem h]

set_option maxRecDepth 100000 in
set_option maxHeartbeats 1600000 in
theorem l2Digit_c (s : List UInt8) (i : Nat) (w : World) (hi : i ≤ 2) : Calls Tryd.prog 47 #[.string (Pl.str s), .int .i64 i] w fun e w' => e = .returned (.int .i64 (Pl.dgt s i)) ∧ w = w' := by
  have hsz : (Pl.str s).size = s.length := Pl.str_size s
  by_cases hl : i < s.length
  · have k1 : ¬ (s.length : Int) ≤ (i : Int) := by omega
    have k2 : (0 : Int) ≤ (i : Int) := by omega
    have k3 : (i : Int) < (s.length : Int) := by omega
    obtain ⟨c, hc⟩ : ∃ c, c = s[i] := ⟨_, rfl⟩
    have hg : (Pl.str s)[i]'(by rw [hsz]; exact hl) = c := by rw [hc]; exact str_get hl _
    have HC := Lib.hid hc
    clear hc
    by_cases h48 : 48 ≤ c.toNat
    · have k48 : ¬ (c.toNat : Int) < 48 := by omega
      by_cases h56 : c.toNat ≤ 56
      · have k56 : ¬ (56 : Int) < (c.toNat : Int) := by omega
        have hw : IntKind.u8.wrap ((c.toNat : Int) - 48) = (c.toNat : Int) - 48 := by rw [IntKind.wrap_u8]; omega
        have hw2 : IntKind.i64.wrap ((c.toNat : Int) - 48) = (c.toNat : Int) - 48 := IntWalk.i64_in _ (by omega)
        have HX := Lib.hid (show Pl.dgt s i = (c.toNat : Int) - 48 by rw [dgt_at hl, ← HC.out, if_pos ⟨h48, h56⟩])
        clear h48 h56
        go_enter Tryd.func47, Tryd.ntmps47
        go_wp2_with fail
        go_ret
        exact ⟨by rw [HX.out]; rfl, rfl⟩
      · have k56 : (56 : Int) < (c.toNat : Int) := by omega
        have HX := Lib.hid (show Pl.dgt s i = -1 by rw [dgt_at hl, ← HC.out, if_neg (fun k => h56 k.2)])
        go_enter Tryd.func47, Tryd.ntmps47
        go_wp2_with fail
        go_ret
        exact ⟨by rw [HX.out]; rfl, rfl⟩
    · have k48 : (c.toNat : Int) < 48 := by omega
      have HX := Lib.hid (show Pl.dgt s i = -1 by rw [dgt_at hl, ← HC.out, if_neg (fun k => h48 k.1)])
      go_enter Tryd.func47, Tryd.ntmps47
      go_wp2_with fail
      go_ret
      exact ⟨by rw [HX.out]; rfl, rfl⟩
  · have k1 : (s.length : Int) ≤ (i : Int) := by omega
    have HX := Lib.hid (dgt_no hl)
    go_enter Tryd.func47, Tryd.ntmps47
    go_wp2_with fail
    go_ret
    exact ⟨by rw [HX.out]; rfl, rfl⟩

end Go.Proofs.YtifdefkkofngoaaDoor

/- Contract of the reference's ParseState. Conditions: the text is shorter than the library's bound. -/
namespace Go.Proofs.YtifdefkkofngoaaDoor
open Go.RowKit
set_option linter.unusedVariables false

theorem qSl_b1 {ws : List (List UInt8)} {k : Nat} (hk : k < ws.length) {x : List UInt8} (hx : x = ws[k]) {n : Int} (hn : n = Pl.dgt x 2) (h0 : n < 0) (s : Pl.St) : Pl.qSl (ws.drop k) k s = none := by
  rw [List.drop_eq_getElem_cons hk, Pl.qSl, ← hx, ← hn, if_pos h0]
theorem qSl_v {ws : List (List UInt8)} {k : Nat} (hk : k < ws.length) {x : List UInt8} (hx : x = ws[k]) {n : Int} (hn : n = Pl.dgt x 2) (h0 : ¬ n < 0) (h8 : k < 8) (s : Pl.St) : Pl.qSl (ws.drop k) k s = Pl.qSl (ws.drop (k + 1)) (k + 1) ⟨s.v.set k n, s.h⟩ := by
  rw [List.drop_eq_getElem_cons hk, Pl.qSl, ← hx, ← hn, if_neg h0, if_pos h8]
theorem qSl_b2 {ws : List (List UInt8)} {k : Nat} (hk : k < ws.length) {x : List UInt8} (hx : x = ws[k]) {n a : Int} (hn : n = Pl.dgt x 2) (ha : a = Pl.dgt x 0) (h0 : ¬ n < 0) (h8 : ¬ k < 8) (h1 : a < 1) (s : Pl.St) : Pl.qSl (ws.drop k) k s = none := by
  rw [List.drop_eq_getElem_cons hk, Pl.qSl, ← hx, ← hn, if_neg h0, if_neg h8, ← ha, if_pos h1]
theorem qSl_c {ws : List (List UInt8)} {k : Nat} (hk : k < ws.length) {x : List UInt8} (hx : x = ws[k]) {n a : Int} (hn : n = Pl.dgt x 2) (ha : a = Pl.dgt x 0) (h0 : ¬ n < 0) (h8 : ¬ k < 8) (h1 : ¬ a < 1) (s : Pl.St) : Pl.qSl (ws.drop k) k s = Pl.qSl (ws.drop (k + 1)) (k + 1) ⟨s.v, s.h.set (a - 1).toNat n⟩ := by
  rw [List.drop_eq_getElem_cons hk, Pl.qSl, ← hx, ← hn, if_neg h0, if_neg h8, ← ha, if_neg h1]
theorem qS_long {s : List UInt8} (h : ¬ s.length ≤ 100) : Pl.pS s = (Pl.emp, false) := by rw [← Pl.qS_pS]; unfold Pl.qS; rw [if_pos (by omega)]
theorem qS_none {s : List UInt8} (h : Pl.qSl (Pl.wordsOf s) 0 Pl.blank = none) : Pl.pS s = (Pl.emp, false) := by rw [← Pl.qS_pS]; unfold Pl.qS; rw [h]; split <;> rfl
theorem qS_yes {s : List UInt8} {a : Pl.St} (h3 : s.length ≤ 100) (h : Pl.qSl (Pl.wordsOf s) 0 Pl.blank = some a) (h1 : Pl.fmtS a = s) : Pl.pS s = (a, true) := by
  rw [← Pl.qS_pS]; unfold Pl.qS; rw [h, if_neg (by omega)]; simp only; rw [if_pos h1]
theorem qS_no {s : List UInt8} {a : Pl.St} (h : Pl.qSl (Pl.wordsOf s) 0 Pl.blank = some a) (h1 : ¬ Pl.fmtS a = s) : Pl.pS s = (Pl.emp, false) := by
  rw [← Pl.qS_pS]; unfold Pl.qS; rw [h]; split
  · rfl
  · simp only; rw [if_neg h1]


set_option maxRecDepth 100000 in
set_option maxHeartbeats 6400000 in
theorem sParseState_c (s : List UInt8) (w : World) (hs : s.length ≤ 2000000) :
    Calls Tryd.prog 14 #[.string (Pl.str s)] w (RSt w (Pl.pS s)) := by
  have hsz : (Pl.str s).size = s.length := Pl.str_size s
  have y2 := Box2.new w 27 (.slice none 0 0) (.slice none 0 0)
  have G : Grow w (w.alloc (.cells #[.slice none 0 0, .slice none 0 0] 27)) := (by repeat (first | exact Grow.refl _ | assumption | refine Grow.alloc ?_ _ | refine Grow.drew ?_ | refine Grow.drewN ?_ _ | refine Grow.trans ?_ (by assumption) | refine Grow.below ?_ (by assumption) (by first | exact Nat.le_refl _ | omega)))
  obtain ⟨ws, hws⟩ : ∃ ws, ws = Pl.wordsOf s := ⟨_, rfl⟩
  have C0 := Lib.hid (show ∀ W, Calls Tryd.prog 46 #[.string (Pl.str s)] W fun e w' => ∃ A c, e = .returned (.slice A ws.length c) ∧ OTexts w' W.heap.size (.slice A ws.length c) ws ∧ ws.length ≤ s.length + 1 ∧ Grow W w' from fun W => by rw [hws]; exact l18Words_c s W hs)
  obtain ⟨R, hR⟩ : ∃ R, R = Pl.qSl ws 0 Pl.blank := ⟨_, rfl⟩
  have HN := Lib.hid (show R = none → Pl.pS s = (Pl.emp, false) from fun e => qS_none (by rw [← hws, ← hR]; exact e))
  have HA := Lib.hid (show ∀ a, R = some a → s.length ≤ 100 → Pl.fmtS a = s → Pl.pS s = (a, true) from fun a e h3 h1 => qS_yes h3 (by rw [← hws, ← hR]; exact e) h1)
  have HB := Lib.hid (show ∀ a, R = some a → ¬ Pl.fmtS a = s → Pl.pS s = (Pl.emp, false) from fun a e h1 => qS_no (by rw [← hws, ← hR]; exact e) h1)
  have HR := Lib.hid (show Pl.qSl (ws.drop 0) 0 Pl.blank = R by rw [hR]; rfl)
  clear hws hR
  go_enter Tryd.func14, Tryd.ntmps14
  go_wp2_with fail
  have hb1 := Lib.hid (show w.heap.size < (w.alloc (.cells #[.slice none 0 0, .slice none 0 0] 27)).heap.size from y2.lt)
  generalize w.alloc (.cells #[.slice none 0 0, .slice none 0 0] 27) = w1 at *
  (with_reducible refine (l2BlankV_c _).mono ?_)
  rintro e w2 ⟨A, B, c, d, v, h, rfl, o2, ⟨hv, hh⟩, g2⟩
  have hv8 : v.length = 8 := by rw [hv]; rfl
  have hh8 : h.length = 8 := by rw [hh]; rfl
  obtain ⟨gA, rfl, bA, bA2⟩ := own_some o2.v (by rw [hv8]; omega)
  obtain ⟨gB, rfl, bB, bB2⟩ := own_some o2.h (by rw [hh8]; omega)
  have y5 := Box2.new w2 27 (.slice (some ⟨gA, 0, none⟩) 8 c) (.slice (some ⟨gB, 0, none⟩) 8 d)
  have q : Grow w1 (w2.alloc (.cells #[.slice (some ⟨gA, 0, none⟩) 8 c, .slice (some ⟨gB, 0, none⟩) 8 d] 27)) := (by repeat (first | exact Grow.refl _ | assumption | refine Grow.alloc ?_ _ | refine Grow.drew ?_ | refine Grow.drewN ?_ _ | refine Grow.trans ?_ (by assumption) | refine Grow.below ?_ (by assumption) (by first | exact Nat.le_refl _ | omega)))
  replace o2 := o2.grow (show Grow _ (w2.alloc (.cells #[.slice (some ⟨gA, 0, none⟩) 8 c, .slice (some ⟨gB, 0, none⟩) 8 d] 27)) from Grow.alloc (Grow.refl _) _)
  replace y2 := y2.grow q
  replace G := G.trans q
  clear g2 q
  have HS0 := Lib.hid (show v.length = 8 ∧ h.length = 8 ∧ Pl.qSl (ws.drop 0) 0 ⟨v, h⟩ = R from ⟨hv8, hh8, by rw [hv, hh]; exact HR.out⟩)
  clear hv hh HR
  have HW3 := Lib.hid (show w2.heap.size < (w2.alloc (.cells #[.slice (some ⟨gA, 0, none⟩) 8 c, .slice (some ⟨gB, 0, none⟩) 8 d] 27)).heap.size from y5.lt)
  go_wp2_with fail
  clear hv8 hh8
  generalize w2.alloc (.cells #[.slice (some ⟨gA, 0, none⟩) 8 c, .slice (some ⟨gB, 0, none⟩) 8 d] 27) = w3 at *
  (with_reducible refine (C0.out _).mono ?_)
  rintro e w4 ⟨A4, c4, rfl, ow, hwl, g4⟩
  replace y2 := y2.grow g4
  replace y5 := y5.grow g4
  replace o2 := o2.grow g4
  replace G := G.trans g4
  have h23 : w2.heap.size < w3.heap.size := HW3.out
  clear g4 C0
  by_cases h3 : s.length ≤ 100
  · have h3' : ¬ (100 : Int) < (s.length : Int) := by omega
    go_wp2_with fail
    go_loopw [6] (fun i wr => ∃ (k : Nat) (v h : List Int), k ≤ ws.length ∧ i = .int .i64 k ∧ Hid (v.length = 8 ∧ h.length = 8 ∧ Pl.qSl (ws.drop k) k ⟨v, h⟩ = R) ∧ OSt wr w1.heap.size (some ⟨gA, 0, none⟩) (some ⟨gB, 0, none⟩) c d ⟨v, h⟩ ∧ Box2 wr w2.heap.size 27 (.slice (some ⟨gA, 0, none⟩) 8 c) (.slice (some ⟨gB, 0, none⟩) 8 d) ∧ Box2 wr w.heap.size 27 (.slice none 0 0) (.slice none 0 0) ∧ OTexts wr w3.heap.size (.slice A4 ws.length c4) ws ∧ Grow w wr) (fun i _ => ws.length - (intOf i).toNat)
    case atStart => exact ⟨0, v, h, Nat.zero_le _, rfl, HS0, o2, y5, y2, ow, G⟩
    case round =>
      clear o2 y5 y2 ow G HS0
      obtain ⟨k, v, h, hk, rfl, HS, o5, y5, y2, ow, G⟩ := hrel
      obtain ⟨j0, j1, _, _⟩ := y5.facts
      by_cases hlt : k < ws.length
      · have hk1 : (k : Int) < (ws.length : Int) := by omega
        have hk2 : (0 : Int) ≤ (k : Int) := by omega
        obtain ⟨bb, off, rfl, t0⟩ := (OTexts.texts rfl ow).at_ hlt
        obtain ⟨x, hx⟩ : ∃ x, x = ws[k] := ⟨_, rfl⟩
        rw [← hx] at t0
        obtain ⟨n, hn⟩ : ∃ n, n = Pl.dgt x 2 := ⟨_, rfl⟩
        obtain ⟨a, ha⟩ : ∃ a, a = Pl.dgt x 0 := ⟨_, rfl⟩
        have rn : -1 ≤ n ∧ n ≤ 8 := by rw [hn]; exact Pl.dgt_rng _ _
        have ra : -1 ≤ a ∧ a ≤ 8 := by rw [ha]; exact Pl.dgt_rng _ _
        have C2 := Lib.hid (show ∀ W, Calls Tryd.prog 47 #[.string (Pl.str x), .int .i64 2] W fun e w' => e = .returned (.int .i64 n) ∧ W = w' from fun W => by rw [hn]; exact l2Digit_c x 2 W (by omega))
        have C3 := Lib.hid (show ∀ W, Calls Tryd.prog 47 #[.string (Pl.str x), .int .i64 0] W fun e w' => e = .returned (.int .i64 a) ∧ W = w' from fun W => by rw [ha]; exact l2Digit_c x 0 W (by omega))
        have HX0 := Lib.hid hx
        have HNn := Lib.hid hn
        have HNa := Lib.hid ha
        clear hx hn ha
        go_wp2_with fail
        (with_reducible refine (C2.out _).mono ?_)
        rintro e w9 ⟨rfl, rfl⟩
        by_cases hn0 : n < 0
        · have HX := Lib.hid (show Pl.pS s = (Pl.emp, false) from HN.out (by rw [← HS.out.2.2]; exact qSl_b1 hlt HX0.out HNn.out hn0 _))
          obtain ⟨p0, p1, f0, f1⟩ := y2.facts
          go_wp2_with fail
          refine bodyPost_ret (v := .tuple #[.agg #[.slice none 0 0, .slice none 0 0], .bool false]) (by simp [results, Tryd.results14, go_sem, p0, p1]) rfl (RSt.no HX.out rfl ?_)
          exact (G.setCell (Nat.le_refl _) _).setCell (Nat.le_refl _) _
        · by_cases hk8 : k < 8
          · have hk9 : (k : Int) < 8 := by omega
            have hkv : k < v.length := by rw [HS.out.1]; exact hk8
            have HV := Lib.hid (show (v.set k n).length = 8 ∧ h.length = 8 ∧ Pl.qSl (ws.drop (k + 1)) (k + 1) ⟨v.set k n, h⟩ = R from ⟨by rw [List.length_set, HS.out.1], HS.out.2.1, by rw [← HS.out.2.2]; exact (qSl_v hlt HX0.out HNn.out hn0 hk8 ⟨v, h⟩).symm⟩)
            obtain ⟨z9, c0⟩ : ∃ y, wr.cell? ⟨gA, k, none⟩ = some y := ⟨.int .i64 v[k], own_cellAt o5.v (by simp [hkv])⟩
            have f0 : wr.frozen? ⟨gA, k, none⟩ = false := World.ownsRow.frozenAt o5.v k
            clear hkv
            go_wp2_with fail
            go_roundw
            case rel => exact ⟨k + 1, v.set k n, h, by omega, by go_num, HV, o5.setV (k := k) n, y5.far (p := ⟨gA, k, none⟩) (by show w2.heap.size ≠ gA; omega) _, y2.far (p := ⟨gA, k, none⟩) (by show w.heap.size ≠ gA; have := hb1.out; omega) _, own_far_lo (p := ⟨gA, k, none⟩) ow (by show gA < w3.heap.size; omega) _, G.setCell (p := ⟨gA, k, none⟩) (by show w.heap.size ≤ gA; have := hb1.out; omega) _⟩
            case measure => simp [intOf]; omega
          · have hk9 : ¬ (k : Int) < 8 := by omega
            go_wp2_with fail
            (with_reducible refine (C3.out _).mono ?_)
            rintro e w9 ⟨rfl, rfl⟩
            by_cases ha1 : a < 1
            · have HX := Lib.hid (show Pl.pS s = (Pl.emp, false) from HN.out (by rw [← HS.out.2.2]; exact qSl_b2 hlt HX0.out HNn.out HNa.out (by omega) (by omega) (by omega) _))
              obtain ⟨p0, p1, f0, f1⟩ := y2.facts
              go_wp2_with fail
              refine bodyPost_ret (v := .tuple #[.agg #[.slice none 0 0, .slice none 0 0], .bool false]) (by simp [results, Tryd.results14, go_sem, p0, p1]) rfl (RSt.no HX.out rfl ?_)
              exact (G.setCell (Nat.le_refl _) _).setCell (Nat.le_refl _) _
            · have HOK := Lib.hid (qSl_c hlt HX0.out HNn.out HNa.out (by omega) (by omega) (by omega) ⟨v, h⟩)
              clear HNa C3
              obtain ⟨i, hi⟩ : ∃ i : Nat, a = (i : Int) + 1 := ⟨(a - 1).toNat, by omega⟩
              subst hi
              have hi8 : i < 8 := by omega
              have hi1 : (i : Int) < 8 := by omega
              have hi2 : (0 : Int) ≤ (i : Int) := by omega
              have hw : IntKind.i64.wrap ((i : Int) + 1 - 1) = (i : Int) := by rw [IntWalk.i64_in _ (by omega)]; omega
              have hw2 : IntKind.i64.wrap (i : Int) = (i : Int) := IntWalk.i64_in _ (by omega)
              have hkh : i < h.length := by rw [HS.out.2.1]; exact hi8
              have HV := Lib.hid (show v.length = 8 ∧ (h.set i n).length = 8 ∧ Pl.qSl (ws.drop (k + 1)) (k + 1) ⟨v, h.set i n⟩ = R from ⟨HS.out.1, by rw [List.length_set, HS.out.2.1], by
                have hh := HOK.out
                rw [show ((i : Int) + 1 - 1).toNat = i from by omega] at hh
                rw [← HS.out.2.2]; exact hh.symm⟩)
              obtain ⟨z9, c0⟩ : ∃ y, wr.cell? ⟨gB, i, none⟩ = some y := ⟨.int .i64 h[i], own_cellAt o5.h (by simp [hkh])⟩
              have f0 : wr.frozen? ⟨gB, i, none⟩ = false := World.ownsRow.frozenAt o5.h i
              clear hkh
              go_wp2_with fail
              go_roundw
              case rel => exact ⟨k + 1, v, h.set i n, by omega, by go_num, HV, o5.setH (k := i) n, y5.far (p := ⟨gB, i, none⟩) (by show w2.heap.size ≠ gB; omega) _, y2.far (p := ⟨gB, i, none⟩) (by show w.heap.size ≠ gB; have := hb1.out; omega) _, own_far_lo (p := ⟨gB, i, none⟩) ow (by show gB < w3.heap.size; omega) _, G.setCell (p := ⟨gB, i, none⟩) (by show w.heap.size ≤ gB; have := hb1.out; omega) _⟩
              case measure => simp [intOf]; omega
      · have hk1 : ¬ (k : Int) < (ws.length : Int) := by omega
        have hR : R = some ⟨v, h⟩ := by
          rw [← HS.out.2.2, List.drop_eq_nil_of_le (by omega), Pl.qSl]
        obtain ⟨t, ht⟩ : ∃ t, t = Pl.fmtS ⟨v, h⟩ := ⟨_, rfl⟩
        have CF := Lib.hid (show ∀ W, Sts W (some ⟨gA, 0, none⟩) (some ⟨gB, 0, none⟩) ⟨v, h⟩ → Calls Tryd.prog 10 #[.agg #[.slice (some ⟨gA, 0, none⟩) 8 c, .slice (some ⟨gB, 0, none⟩) 8 d]] W fun e w' => e = .returned (.string (Pl.str t)) ∧ Grow W w' from fun W k => by
          have := sFormatState_c (some ⟨gA, 0, none⟩) (some ⟨gB, 0, none⟩) c d ⟨v, h⟩ W k (by show v.length ≤ _; rw [HS.out.1]; omega) (by show h.length ≤ _; rw [HS.out.2.1]; omega)
          rw [ht]
          rw [show sval (some ⟨gA, 0, none⟩) (some ⟨gB, 0, none⟩) c d ⟨v, h⟩ = .agg #[.slice (some ⟨gA, 0, none⟩) v.length c, .slice (some ⟨gB, 0, none⟩) h.length d] from rfl, HS.out.1, HS.out.2.1] at this
          exact this)
        have HA2 := Lib.hid (show t = s → Pl.pS s = (⟨v, h⟩, true) from fun h1 => HA.out _ hR h3 (by rw [← ht]; exact h1))
        have HB2 := Lib.hid (show ¬ t = s → Pl.pS s = (Pl.emp, false) from fun h1 => HB.out _ hR (by rw [← ht]; exact h1))
        clear ht hR HA HB HN
        go_wp2_with fail
        (with_reducible refine (CF.out _ o5.st).mono ?_)
        rintro e w9 ⟨rfl, g9⟩
        replace y2 := y2.grow g9
        replace y5 := y5.grow g9
        replace o5 := o5.grow g9
        replace G := G.trans g9
        clear g9 j0 j1
        by_cases hts : t = s
        · have hc0 := str_yes hts
          have hc1 : (Pl.str t).toList = (Pl.str s).toList := eq_of_beq hc0
          have HX := Lib.hid (HA2.out hts)
          obtain ⟨j0, j1, _, _⟩ := y5.facts
          obtain ⟨p0, p1, f0, f1⟩ := y2.facts
          clear hts
          go_wp2_with fail
          refine bodyPost_ret (v := .tuple #[.agg #[.slice (some ⟨gA, 0, none⟩) 8 c, .slice (some ⟨gB, 0, none⟩) 8 d], .bool true]) (by simp [results, Tryd.results14, go_sem, p0, p1]) rfl (show RSt w (Pl.pS s) _ _ from ⟨some ⟨gA, 0, none⟩, some ⟨gB, 0, none⟩, c, d, ?_, ?_, (G.setCell (Nat.le_refl _) _).setCell (Nat.le_refl _) _⟩)
          · rw [HX.out]
            show _ = Ending.returned (.tuple #[.agg #[.slice _ v.length c, .slice _ h.length d], .bool true])
            rw [HS.out.1, HS.out.2.1]
          · rw [HX.out]
            have := hb1.out
            exact ((o5.far (by show w.heap.size < _; omega) _).far (by show w.heap.size < _; omega) _).lo (by omega)
        · have hc0 := str_no hts
          have hc1 : ¬ (Pl.str t).toList = (Pl.str s).toList := ne_of_beq_false hc0
          have HX := Lib.hid (HB2.out hts)
          clear hts
          obtain ⟨p0, p1, f0, f1⟩ := y2.facts
          go_wp2_with fail
          refine bodyPost_ret (v := .tuple #[.agg #[.slice none 0 0, .slice none 0 0], .bool false]) (by simp [results, Tryd.results14, go_sem, p0, p1]) rfl (RSt.no HX.out rfl ?_)
          exact (G.setCell (Nat.le_refl _) _).setCell (Nat.le_refl _) _
  · have h3' : (100 : Int) < (s.length : Int) := by omega
    have HX := Lib.hid (qS_long h3)
    obtain ⟨p0, p1, f0, f1⟩ := y2.facts
    go_wp2_with fail
    refine bodyPost_ret (v := .tuple #[.agg #[.slice none 0 0, .slice none 0 0], .bool false]) (by simp [results, Tryd.results14, go_sem, p0, p1]) rfl (RSt.no HX.out rfl ?_)
    exact (G.setCell (Nat.le_refl _) _).setCell (Nat.le_refl _) _

end Go.Proofs.YtifdefkkofngoaaDoor
