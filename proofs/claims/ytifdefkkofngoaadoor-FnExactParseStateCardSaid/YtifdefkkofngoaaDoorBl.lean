/- The reference's empty state; its digit. No conditions. -/
import Derived.Test.YtifdefkkofngoaaDoorDrawS
import Derived.Test.YtifdefkkofngoaaDoorPg
namespace Go.Proofs.YtifdefkkofngoaaDoor
open Go.RowKit
set_option linter.unusedVariables false

set_option maxRecDepth 100000 in
set_option maxHeartbeats 1600000 in
theorem l2BlankV_c (w : World) : Calls Tryd.prog 45 #[] w fun e w' => ∃ A B c d v h, e = .returned (sval A B c d ⟨v, h⟩) ∧ OSt w' w.heap.size A B c d ⟨v, h⟩ ∧ (v = List.replicate 8 0 ∧ h = List.replicate 8 (-1)) ∧ Grow w w' := by
  obtain ⟨i0, hi, hz0, hz1, hz2⟩ := info_parts int_info
  have y0 := (Box2.new w 27 (.slice none 0 0) (.slice none 0 0)).grow (show Grow _ ((w.alloc (.cells #[.slice none 0 0, .slice none 0 0] 27)).alloc (.cells #[.slice none 0 0, .slice none 0 0] 27)) from Grow.alloc (Grow.refl _) _)
  have y1 := Box2.new (w.alloc (.cells #[.slice none 0 0, .slice none 0 0] 27)) 27 (.slice none 0 0) (.slice none 0 0)
  have G1 : Grow w ((w.alloc (.cells #[.slice none 0 0, .slice none 0 0] 27)).alloc (.cells #[.slice none 0 0, .slice none 0 0] 27)) := (by repeat (first | exact Grow.refl _ | assumption | refine Grow.alloc ?_ _ | refine Grow.drew ?_ | refine Grow.drewN ?_ _ | refine Grow.trans ?_ (by assumption) | refine Grow.below ?_ (by assumption) (by first | exact Nat.le_refl _ | omega)))
  have hsz : w.heap.size + 2 ≤ ((w.alloc (.cells #[.slice none 0 0, .slice none 0 0] 27)).alloc (.cells #[.slice none 0 0, .slice none 0 0] 27)).heap.size := by simp
  simp only [World.size_alloc] at y1
  go_enter Tryd.func45, Tryd.ntmps45
  go_wp2_with fail
  generalize (w.alloc (.cells #[.slice none 0 0, .slice none 0 0] 27)).alloc (.cells #[.slice none 0 0, .slice none 0 0] 27) = w1 at *
  go_loopw [2] (fun i wr => ∃ k : Nat, k ≤ 8 ∧ i = .int .i64 k ∧ Grow w wr ∧ w.heap.size + 2 ≤ wr.heap.size ∧ Box2 wr w.heap.size 27 (.slice none 0 0) (.slice none 0 0) ∧ ∃ (l : List Int) (A : Option Addr) (c : Nat), Hid (l = List.replicate k 0) ∧ Box2 wr (w.heap.size + 1) 27 (.slice A l.length c) (.slice none 0 0) ∧ OInts wr (w.heap.size + 2) (.slice A l.length c) l) (fun i _ => 8 - (intOf i).toNat)
  case atStart => exact ⟨0, by omega, rfl, G1, hsz, y0, [], none, 0, Lib.hid rfl, y1, ointsNil _ _⟩
  case round =>
    clear y0 y1 G1 hsz
    obtain ⟨k, hk, rfl, hg, hs, y0, l, A, c, hl, y1, o1⟩ := hrel
    obtain ⟨k0, k1, e0, e1⟩ := y1.facts
    have HL := hl
    have hl8 : l.length ≤ 8 := by rw [HL.out, List.length_replicate]; exact hk
    clear hl
    by_cases hlt : k < 8
    · have hk1 : (k : Int) < 8 := by omega
      go_wp2_with ((at_builtin; go_must (refine wpList_append_src _ rfl _ _ 22 rfl (w.heap.size + 2) 3 i0 _ 1 8 Tryd.underlying22 hi hz0 hz1 hz2 rfl (by omega) _ l.length (l.map (Value.int .i64)) rfl (own_grow o1 (by repeat (first | exact Grow.refl _ | assumption | refine Grow.alloc ?_ _ | refine Grow.drew ?_ | refine Grow.drewN ?_ _ | refine Grow.trans ?_ (by assumption) | refine Grow.below ?_ (by assumption) (by first | exact Nat.le_refl _ | omega)))) _ 1 1 [.int .i64 0] rfl rfl (Cells.block (heap_alloc_new _ _)) (by intro u hu; rw [List.mem_singleton.1 hu]; rfl) (by unfold maxLen; omega) (by omega) (by simp; omega) (l.length + 1) rfl ((l ++ [0]).map (Value.int .i64)) (by simp) ?_; intro A3 c3 w3 ho3 _ _ hb3)); have z1 : Box2 w3 (w.heap.size + 1) 27 (.slice A l.length c) (.slice none 0 0) := (y1.grow (show Grow wr (wr.alloc _) from Grow.alloc (Grow.refl _) _)).below hb3 (by omega); obtain ⟨j0, j1, f0, f1⟩ := z1.facts)
      go_roundw
      case rel =>
        have hG : Grow w w3 := (hg.alloc _).below hb3 (by omega)
        have hs3 := hb3.size
        simp only [World.size_alloc] at hs3
        refine ⟨k + 1, by omega, by go_num, hG.setCell (by show w.heap.size ≤ w.heap.size + 1; omega) _, by show w.heap.size + 2 ≤ (w3.setCell _ _).heap.size; simp [World.setCell]; omega, ?_, l ++ [0], A3, c3, Lib.hid (by rw [HL.out, List.replicate_succ']), by simpa using z1.set0 (.slice A3 (l.length + 1) c3), ointsSnoc (own_far_lo ho3 (by show w.heap.size + 1 < w.heap.size + 2; omega) _)⟩
        exact ((y0.grow (Grow.alloc (Grow.refl _) _)).below hb3 (by omega)).far (by show w.heap.size ≠ w.heap.size + 1; omega) _
      case measure => simp [intOf]; omega
    · have hk1 : (8 : Int) ≤ (k : Int) := by omega
      have HL8 := Lib.hid (show l = List.replicate 8 0 by rw [HL.out, show k = 8 by omega])
      go_wp2_with fail
      clear k0 k1 e0 e1
      obtain ⟨wo, rfl⟩ : ∃ wo : World, wo = wr := ⟨_, rfl⟩
      have bA := own_bd o1
      go_loopw [3] (fun i wr => ∃ k : Nat, k ≤ 8 ∧ i = .int .i64 k ∧ Grow w wr ∧ wo.heap.size ≤ wr.heap.size ∧ Box2 wr w.heap.size 27 (.slice none 0 0) (.slice none 0 0) ∧ OInts wr (w.heap.size + 2) (.slice A l.length c) l ∧ ∃ (m : List Int) (B : Option Addr) (d : Nat), Hid (m = List.replicate k (-1)) ∧ Box2 wr (w.heap.size + 1) 27 (.slice A l.length c) (.slice B m.length d) ∧ OInts wr wo.heap.size (.slice B m.length d) m) (fun i _ => 8 - (intOf i).toNat)
      case atStart => exact ⟨0, by omega, rfl, hg, Nat.le_refl _, y0, o1, [], none, 0, Lib.hid rfl, y1, ointsNil _ _⟩
      case round =>
        clear hg y0 y1 o1
        obtain ⟨j, hj, rfl, hg, hsr, y0, o1, m, B, d, hm, y1, o2⟩ := hrel
        obtain ⟨k0, k1, e0, e1⟩ := y1.facts
        have HM := hm
        have hm8 : m.length ≤ 8 := by rw [HM.out, List.length_replicate]; exact hj
        clear hm
        by_cases hjl : j < 8
        · have hj1 : (j : Int) < 8 := by omega
          go_wp2_with ((at_builtin; go_must (refine wpList_append_src _ rfl _ _ 22 rfl wo.heap.size 3 i0 _ 1 8 Tryd.underlying22 hi hz0 hz1 hz2 rfl (by omega) _ m.length (m.map (Value.int .i64)) rfl (own_grow o2 (by repeat (first | exact Grow.refl _ | assumption | refine Grow.alloc ?_ _ | refine Grow.drew ?_ | refine Grow.drewN ?_ _ | refine Grow.trans ?_ (by assumption) | refine Grow.below ?_ (by assumption) (by first | exact Nat.le_refl _ | omega)))) _ 1 1 [.int .i64 (-1)] rfl rfl (Cells.block (heap_alloc_new _ _)) (by intro u hu; rw [List.mem_singleton.1 hu]; rfl) (by unfold maxLen; omega) (by omega) (by simp; omega) (m.length + 1) rfl ((m ++ [(-1)]).map (Value.int .i64)) (by simp) ?_; intro A3 c3 w3 ho3 _ _ hb3)); have z1 : Box2 w3 (w.heap.size + 1) 27 (.slice A l.length c) (.slice B m.length d) := (y1.grow (show Grow wr (wr.alloc _) from Grow.alloc (Grow.refl _) _)).below hb3 (by omega); obtain ⟨j0, j1, f0, f1⟩ := z1.facts)
          go_roundw
          case rel =>
            have hG : Grow w w3 := (hg.alloc _).below hb3 (by omega)
            have hs3 := hb3.size
            simp only [World.size_alloc] at hs3
            refine ⟨j + 1, by omega, by go_num, hG.setCell (by show w.heap.size ≤ w.heap.size + 1; omega) _, by show wo.heap.size ≤ (w3.setCell _ _).heap.size; simp [World.setCell]; omega, ?_, ?_, m ++ [-1], A3, c3, Lib.hid (by rw [HM.out, List.replicate_succ']), by simpa using z1.set1 (.slice A3 (m.length + 1) c3), ointsSnoc (own_far_lo ho3 (by show w.heap.size + 1 < wo.heap.size; omega) _)⟩
            · exact ((y0.grow (Grow.alloc (Grow.refl _) _)).below hb3 (by omega)).far (by show w.heap.size ≠ w.heap.size + 1; omega) _
            · exact own_far_lo (own_below (own_grow o1 (Grow.alloc (Grow.refl _) _)) hb3 (fun k hk => (bA k hk).2)) (by show w.heap.size + 1 < w.heap.size + 2; omega) _
          case measure => simp [intOf]; omega
        · have hj1 : (8 : Int) ≤ (j : Int) := by omega
          have HM8 := Lib.hid (show m = List.replicate 8 (-1) by rw [HM.out, show j = 8 by omega])
          obtain ⟨j0, j1, f0, f1⟩ := y0.facts
          go_wp2_with fail
          refine bodyPost_ret (v := .agg #[.slice A l.length c, .slice B m.length d]) (by simp [results, Tryd.results45, go_sem, j0, j1]) rfl ⟨A, B, c, d, l, m, rfl, ⟨?_, ?_, ?_⟩, ⟨HL8.out, HM8.out⟩, ?_⟩
          · exact own_lo (own_far_lo (own_far_lo o1 (by show w.heap.size < w.heap.size + 2; omega) _) (by show w.heap.size < w.heap.size + 2; omega) _) (by omega)
          · exact own_lo (own_far_lo (own_far_lo o2 (by show w.heap.size < wo.heap.size; omega) _) (by show w.heap.size < wo.heap.size; omega) _) (by omega)
          · exact Bd.apart bA (own_bd o2) (.inl (Nat.le_refl _))
          · exact (hg.setCell (Nat.le_refl _) _).setCell (Nat.le_refl _) _

theorem dgt_no {s : List UInt8} {i : Nat} (h : ¬ i < s.length) : Pl.dgt s i = -1 := by unfold Pl.dgt; rw [List.getElem?_eq_none (by omega)]
theorem dgt_at {s : List UInt8} {i : Nat} (h : i < s.length) : Pl.dgt s i = if 48 ≤ s[i] ∧ s[i] ≤ 56 then (s[i].toNat : Int) - 48 else -1 := by unfold Pl.dgt; rw [List.getElem?_eq_getElem h]

set_option maxRecDepth 100000 in
set_option maxHeartbeats 1600000 in
theorem l2Digit_c (s : List UInt8) (i : Nat) (w : World) (hi : i ≤ 2) : Calls Tryd.prog 47 #[.string (Pl.str s), .int .i64 i] w fun e w' => e = .returned (.int .i64 (Pl.dgt s i)) ∧ w = w' := by
  have hsz : (Pl.str s).size = s.length := Pl.str_size s
  by_cases hl : i < s.length
  · have k1 : ¬ (s.length : Int) ≤ (i : Int) := by omega
    have k2 : (0 : Int) ≤ (i : Int) := by omega
    have k3 : (i : Int) < (s.length : Int) := by omega
    obtain ⟨c, hc⟩ : ∃ c, c = s[i] := ⟨_, rfl⟩
    have hg : (Pl.str s)[i]'(by rw [hsz]; exact hl) = c := by rw [hc]; exact str_get hl _
    have HC := Lib.hid hc
    clear hc
    by_cases h48 : 48 ≤ c.toNat
    · have k48 : ¬ (c.toNat : Int) < 48 := by omega
      by_cases h56 : c.toNat ≤ 56
      · have k56 : ¬ (56 : Int) < (c.toNat : Int) := by omega
        have hw : IntKind.u8.wrap ((c.toNat : Int) - 48) = (c.toNat : Int) - 48 := by rw [IntKind.wrap_u8]; omega
        have hw2 : IntKind.i64.wrap ((c.toNat : Int) - 48) = (c.toNat : Int) - 48 := IntWalk.i64_in _ (by omega)
        have HX := Lib.hid (show Pl.dgt s i = (c.toNat : Int) - 48 by rw [dgt_at hl, ← HC.out, if_pos ⟨h48, h56⟩])
        clear h48 h56
        go_enter Tryd.func47, Tryd.ntmps47
        go_wp2_with fail
        go_ret
        exact ⟨by rw [HX.out]; rfl, rfl⟩
      · have k56 : (56 : Int) < (c.toNat : Int) := by omega
        have HX := Lib.hid (show Pl.dgt s i = -1 by rw [dgt_at hl, ← HC.out, if_neg (fun k => h56 k.2)])
        go_enter Tryd.func47, Tryd.ntmps47
        go_wp2_with fail
        go_ret
        exact ⟨by rw [HX.out]; rfl, rfl⟩
    · have k48 : (c.toNat : Int) < 48 := by omega
      have HX := Lib.hid (show Pl.dgt s i = -1 by rw [dgt_at hl, ← HC.out, if_neg (fun k => h48 k.1)])
      go_enter Tryd.func47, Tryd.ntmps47
      go_wp2_with fail
      go_ret
      exact ⟨by rw [HX.out]; rfl, rfl⟩
  · have k1 : (s.length : Int) ≤ (i : Int) := by omega
    have HX := Lib.hid (dgt_no hl)
    go_enter Tryd.func47, Tryd.ntmps47
    go_wp2_with fail
    go_ret
    exact ⟨by rw [HX.out]; rfl, rfl⟩

end Go.Proofs.YtifdefkkofngoaaDoor
