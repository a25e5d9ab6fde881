/- The reference's words of a text. Conditions: the text is shorter than the library's bound. -/
import Derived.Test.YtifdefkkofngoaaDoorPg
import Derived.Test.YtifdefkkofngoaaDoorPa
import Derived.Test.YtifdefkkofngoaaDoorFt
import Derived.Test.YtifdefkkofngoaaDoorPlainAll
namespace Go.Proofs.YtifdefkkofngoaaDoor
open Go.RowKit
set_option linter.unusedVariables false

theorem cut_hit {s : List UInt8} {k j : Nat} (hk : k < s.length) (h : s[k] = 32) : Pl.cutA 32 (s.drop k) ((s.take k).drop j) = (s.take k).drop j :: Pl.cutA 32 (s.drop (k + 1)) ((s.take (k + 1)).drop (k + 1)) := by
  rw [List.drop_eq_getElem_cons hk, Pl.cutA, if_pos h, show (s.take (k + 1)).drop (k + 1) = [] from List.drop_eq_nil_of_le (by simp; omega)]
theorem cut_pass {s : List UInt8} {k j : Nat} (hk : k < s.length) (hj : j ≤ k) (h : ¬ s[k] = 32) : Pl.cutA 32 (s.drop k) ((s.take k).drop j) = Pl.cutA 32 (s.drop (k + 1)) ((s.take (k + 1)).drop j) := by
  rw [List.drop_eq_getElem_cons hk, Pl.cutA, if_neg h, List.take_succ_eq_append_getElem hk, List.drop_append_of_le_length (by simp; omega)]
theorem cut_last {s : List UInt8} {k j : Nat} (hk : k = s.length) : Pl.cutA 32 (s.drop k) ((s.take k).drop j) = [(s.take k).drop j] := by
  rw [List.drop_eq_nil_of_le (by omega)]; rfl

set_option maxRecDepth 100000 in
set_option maxHeartbeats 3200000 in
theorem l18Cut_c (s : List UInt8) (w : World) (hs : s.length ≤ 2000000) :
    Calls Tryd.prog 91 #[.string (Pl.str s), .int .u8 32] w fun e w' => ∃ A c, e = .returned (.slice A (Pl.cutA 32 s []).length c) ∧ OTexts w' w.heap.size (.slice A (Pl.cutA 32 s []).length c) (Pl.cutA 32 s []) ∧ (Pl.cutA 32 s []).length ≤ s.length + 1 ∧ Grow w w' := by
  obtain ⟨i0, hi, hz0, hz1, hz2⟩ := info_parts string_info
  obtain ⟨R, hR⟩ : ∃ R, R = Pl.cutA 32 s [] := ⟨_, rfl⟩
  rw [← hR]
  have HR0 := Lib.hid (show [] ++ Pl.cutA 32 (s.drop 0) ((s.take 0).drop 0) = R by rw [hR]; simp)
  clear hR
  have hsz : (Pl.str s).size = s.length := Pl.str_size s
  have o0 : OTexts (w.alloc (.cells #[] 9)) w.heap.size (.slice (some ⟨w.heap.size, 0, none⟩) ([] : List (List UInt8)).length 0) [] := own_empty (heap_alloc_new _ _) (Nat.le_refl _)
  have G0 : Grow w (w.alloc (.cells #[] 9)) := (by repeat (first | exact Grow.refl _ | assumption | refine Grow.alloc ?_ _ | refine Grow.drew ?_ | refine Grow.drewN ?_ _ | refine Grow.trans ?_ (by assumption) | refine Grow.below ?_ (by assumption) (by first | exact Nat.le_refl _ | omega)))
  go_enter Tryd.func91, Tryd.ntmps91
  go_wp2_with fail
  generalize w.alloc (.cells #[] 9) = w1 at *
  go_loopw [5, 6, 7] (fun u i6 i7 wr => ∃ (k j : Nat) (o : List (List UInt8)) (A : Option Addr) (c : Nat), k ≤ s.length + 1 ∧ i7 = .int .i64 k ∧ j ≤ k ∧ i6 = .int .i64 j ∧ u = .slice A o.length c ∧ Hid (if k ≤ s.length then o ++ Pl.cutA 32 (s.drop k) ((s.take k).drop j) = R else o = R) ∧ o.length ≤ k ∧ OTexts wr w.heap.size (.slice A o.length c) o ∧ Grow w wr) (fun _ _ i _ => s.length + 1 - (intOf i).toNat)
  case atStart => exact ⟨0, 0, [], _, _, by omega, rfl, by omega, rfl, rfl, Lib.hid (by rw [if_pos (by omega)]; exact HR0.out), by simp, o0, G0⟩
  case round =>
    clear o0 G0 HR0
    obtain ⟨k, j, o, A1, c1, hk, rfl, hj, rfl, rfl, HR, ho, o1, G⟩ := hrel
    by_cases hlt : k ≤ s.length
    · have hk1 : (k : Int) ≤ (s.length : Int) := by omega
      have hk2 : (0 : Int) ≤ (k : Int) := by omega
      have hj1 : (j : Int) ≤ (k : Int) := by omega
      have hj2 : (0 : Int) ≤ (j : Int) := by omega
      obtain ⟨x, hx⟩ : ∃ x, x = (s.take k).drop j := ⟨_, rfl⟩
      have hxe : (Pl.str s).extract j k = Pl.str x := by rw [hx]; exact str_ext s j k
      have HQ := Lib.hid (show o ++ Pl.cutA 32 (s.drop k) x = R by have := HR.out; rw [if_pos hlt] at this; rw [hx]; exact this)
      have hszr := G.le
      clear HR
      by_cases he : k = s.length
      · have hb : ((k : Int) == (s.length : Int)) = true := by rw [beq_iff_eq]; omega
        have HV := Lib.hid (show if k + 1 ≤ s.length then (o ++ [x]) ++ Pl.cutA 32 (s.drop (k + 1)) ((s.take (k + 1)).drop (k + 1)) = R else o ++ [x] = R by rw [if_neg (by omega), ← HQ.out, hx, cut_last he])
        clear he hx
        go_wp2_with (at_builtin; go_must (refine wpList_append_src _ rfl _ _ 57 rfl w.heap.size 9 i0 _ 1 16 Tryd.underlying57 hi hz0 hz1 hz2 rfl (by omega) _ o.length (tcells o) rfl (own_grow o1 (by repeat (first | exact Grow.refl _ | assumption | refine Grow.alloc ?_ _ | refine Grow.drew ?_ | refine Grow.drewN ?_ _ | refine Grow.trans ?_ (by assumption) | refine Grow.below ?_ (by assumption) (by first | exact Nat.le_refl _ | omega)))) _ 1 1 [.string (Pl.str x)] rfl rfl (Cells.block (heap_alloc_new _ _)) (by intro u hu; rw [List.mem_singleton.1 hu]; rfl) (by unfold maxLen; omega) (by omega) (by simp; omega) (o.length + 1) rfl (tcells (o ++ [x])) (by simp) ?_; intro A3 c3 w3 ho3 _ _ hb3))
        go_roundw
        case rel => exact ⟨k + 1, k + 1, o ++ [x], A3, c3, by omega, by go_num, by omega, by go_num, by simp, HV, by simp; omega, otexts_snoc ho3, (G.trans (by repeat (first | exact Grow.refl _ | assumption | refine Grow.alloc ?_ _ | refine Grow.drew ?_ | refine Grow.drewN ?_ _ | refine Grow.trans ?_ (by assumption) | refine Grow.below ?_ (by assumption) (by first | exact Nat.le_refl _ | omega)))).below hb3 (Nat.le_refl _)⟩
        case measure => simp [intOf]; omega
      · have hb : ((k : Int) == (s.length : Int)) = false := by rw [beq_eq_false_iff_ne]; omega
        have hl : k < s.length := by omega
        have hl2 : (k : Int) < (s.length : Int) := by omega
        have hg : (Pl.str s)[k]'(by rw [hsz]; exact hl) = s[k] := str_get hl _
        by_cases hc : s[k] = 32
        · have hbc : ((((Pl.str s)[k]'(by rw [hsz]; exact hl)).toNat : Int) == 32) = true := by rw [hg, hc]; rfl
          have HV := Lib.hid (show if k + 1 ≤ s.length then (o ++ [x]) ++ Pl.cutA 32 (s.drop (k + 1)) ((s.take (k + 1)).drop (k + 1)) = R else o ++ [x] = R by rw [if_pos (by omega), ← HQ.out, hx, cut_hit hl hc]; simp)
          clear he hx hc hg
          go_wp2_with (at_builtin; go_must (refine wpList_append_src _ rfl _ _ 57 rfl w.heap.size 9 i0 _ 1 16 Tryd.underlying57 hi hz0 hz1 hz2 rfl (by omega) _ o.length (tcells o) rfl (own_grow o1 (by repeat (first | exact Grow.refl _ | assumption | refine Grow.alloc ?_ _ | refine Grow.drew ?_ | refine Grow.drewN ?_ _ | refine Grow.trans ?_ (by assumption) | refine Grow.below ?_ (by assumption) (by first | exact Nat.le_refl _ | omega)))) _ 1 1 [.string (Pl.str x)] rfl rfl (Cells.block (heap_alloc_new _ _)) (by intro u hu; rw [List.mem_singleton.1 hu]; rfl) (by unfold maxLen; omega) (by omega) (by simp; omega) (o.length + 1) rfl (tcells (o ++ [x])) (by simp) ?_; intro A3 c3 w3 ho3 _ _ hb3))
          go_roundw
          case rel => exact ⟨k + 1, k + 1, o ++ [x], A3, c3, by omega, by go_num, by omega, by go_num, by simp, HV, by simp; omega, otexts_snoc ho3, (G.trans (by repeat (first | exact Grow.refl _ | assumption | refine Grow.alloc ?_ _ | refine Grow.drew ?_ | refine Grow.drewN ?_ _ | refine Grow.trans ?_ (by assumption) | refine Grow.below ?_ (by assumption) (by first | exact Nat.le_refl _ | omega)))).below hb3 (Nat.le_refl _)⟩
          case measure => simp [intOf]; omega
        · have hbc : ((((Pl.str s)[k]'(by rw [hsz]; exact hl)).toNat : Int) == 32) = false := by rw [hg, u8_eq _ 32 32 rfl]; exact decide_eq_false hc
          have HV := Lib.hid (show if k + 1 ≤ s.length then o ++ Pl.cutA 32 (s.drop (k + 1)) ((s.take (k + 1)).drop j) = R else o = R by rw [if_pos (by omega), ← HQ.out, hx, cut_pass hl hj hc])
          clear he hx hc hg hxe
          go_wp2_with fail
          go_roundw
          case rel => exact ⟨k + 1, j, o, A1, c1, by omega, by go_num, by omega, rfl, rfl, HV, by omega, o1, G⟩
          case measure => simp [intOf]; omega
    · have hk1 : ¬ (k : Int) ≤ (s.length : Int) := by omega
      have HV := Lib.hid (show o = R by have := HR.out; rwa [if_neg hlt] at this)
      go_wp2_with fail
      go_ret
      exact ⟨A1, c1, by rw [← HV.out]; rfl, by rw [← HV.out]; exact o1, by rw [← HV.out]; omega, G⟩

theorem tl_nil : (Pl.str []).toList = [] := by rw [show Pl.str [] = ⟨#[]⟩ from rfl]; simp
theorem filter_yes {ps : List (List UInt8)} {k : Nat} (hk : k < ps.length) {o : List (List UInt8)} (ho : o = (ps.take k).filter fun w => w != []) (h : ¬ ps[k] = []) : o ++ [ps[k]] = (ps.take (k + 1)).filter fun w => w != [] := by
  rw [List.take_succ_eq_append_getElem hk, List.filter_append, ← ho, List.filter_cons_of_pos (by simpa using h)]; rfl
theorem filter_no {ps : List (List UInt8)} {k : Nat} (hk : k < ps.length) {o : List (List UInt8)} (ho : o = (ps.take k).filter fun w => w != []) (h : ps[k] = []) : o = (ps.take (k + 1)).filter fun w => w != [] := by
  rw [List.take_succ_eq_append_getElem hk, List.filter_append, ← ho, List.filter_cons_of_neg (by simp [h])]; simp

set_option maxRecDepth 100000 in
set_option maxHeartbeats 3200000 in
theorem l18Words_c (s : List UInt8) (w : World) (hs : s.length ≤ 2000000) :
    Calls Tryd.prog 46 #[.string (Pl.str s)] w fun e w' => ∃ A c, e = .returned (.slice A (Pl.wordsOf s).length c) ∧ OTexts w' w.heap.size (.slice A (Pl.wordsOf s).length c) (Pl.wordsOf s) ∧ (Pl.wordsOf s).length ≤ s.length + 1 ∧ Grow w w' := by
  obtain ⟨i0, hi, hz0, hz1, hz2⟩ := info_parts string_info
  obtain ⟨R, hR⟩ : ∃ R, R = Pl.wordsOf s := ⟨_, rfl⟩
  rw [← hR]
  have C := l18Cut_c s w hs
  obtain ⟨ps, hps⟩ : ∃ ps, ps = Pl.cutA 32 s [] := ⟨_, rfl⟩
  rw [← hps] at C
  have HR := Lib.hid (show R = ps.filter fun w => w != [] by rw [hR, hps]; rfl)
  have HC := Lib.hid C
  clear hR hps C
  go_enter Tryd.func46, Tryd.ntmps46
  go_wp2_with fail
  refine HC.out.mono ?_
  rintro e w1 ⟨A1, c1, rfl, o1, hl1, g1⟩
  clear HC
  have T1 := OTexts.texts rfl o1
  have hl2 : ps.length ≤ 2000001 := by omega
  have hs1 := g1.le
  have o0 : OTexts (w1.alloc (.cells #[] 9)) w1.heap.size (.slice (some ⟨w1.heap.size, 0, none⟩) ([] : List (List UInt8)).length 0) [] := own_empty (heap_alloc_new _ _) (Nat.le_refl _)
  have G0 : Grow w (w1.alloc (.cells #[] 9)) := (by repeat (first | exact Grow.refl _ | assumption | refine Grow.alloc ?_ _ | refine Grow.drew ?_ | refine Grow.drewN ?_ _ | refine Grow.trans ?_ (by assumption) | refine Grow.below ?_ (by assumption) (by first | exact Nat.le_refl _ | omega)))
  have G1 : Grow w1 (w1.alloc (.cells #[] 9)) := (by repeat (first | exact Grow.refl _ | assumption | refine Grow.alloc ?_ _ | refine Grow.drew ?_ | refine Grow.drewN ?_ _ | refine Grow.trans ?_ (by assumption) | refine Grow.below ?_ (by assumption) (by first | exact Nat.le_refl _ | omega)))
  clear g1 o1
  go_wp2_with fail
  generalize w1.alloc (.cells #[] 9) = w2 at *
  go_loopw [4, 5] (fun u i wr => ∃ (k : Nat) (o : List (List UInt8)) (A : Option Addr) (c : Nat), k ≤ ps.length ∧ i = .int .i64 k ∧ u = .slice A o.length c ∧ Hid (o = (ps.take k).filter fun w => w != []) ∧ o.length ≤ k ∧ OTexts wr w1.heap.size (.slice A o.length c) o ∧ Grow w1 wr ∧ Grow w wr) (fun _ i _ => ps.length - (intOf i).toNat)
  case atStart => exact ⟨0, [], _, _, by omega, rfl, rfl, Lib.hid (by simp), by simp, o0, G1, G0⟩
  case round =>
    clear o0 G0 G1
    obtain ⟨k, o, A2, c2, hk, rfl, rfl, HO, ho, o2, G, Gw⟩ := hrel
    by_cases hlt : k < ps.length
    · obtain ⟨b, off, rfl, q0⟩ := (T1.grow G).at_ hlt
      have hk1 : (k : Int) < (ps.length : Int) := by omega
      obtain ⟨x, hx⟩ : ∃ x, x = ps[k] := ⟨_, rfl⟩
      rw [← hx] at q0
      have hszr := G.le
      by_cases he : x = []
      · obtain ⟨hb0, hb1⟩ := lit_yes he tl_nil
        have HV := Lib.hid (filter_no hlt HO.out (by rw [← hx]; exact he))
        clear he hx
        go_wp2_with fail
        go_roundw
        case rel => exact ⟨k + 1, o, A2, c2, by omega, by go_num, rfl, HV, by omega, o2, G, Gw⟩
        case measure => simp [intOf]; omega
      · obtain ⟨hb0, hb1⟩ := lit_no he tl_nil
        have HV := Lib.hid (show o ++ [x] = (ps.take (k + 1)).filter fun w => w != [] by rw [hx]; exact filter_yes hlt HO.out (by rw [← hx]; exact he))
        clear he hx
        go_wp2_with (at_builtin; go_must (refine wpList_append_src _ rfl _ _ 57 rfl w1.heap.size 9 i0 _ 1 16 Tryd.underlying57 hi hz0 hz1 hz2 rfl (by omega) _ o.length (tcells o) rfl (own_grow o2 (by repeat (first | exact Grow.refl _ | assumption | refine Grow.alloc ?_ _ | refine Grow.drew ?_ | refine Grow.drewN ?_ _ | refine Grow.trans ?_ (by assumption) | refine Grow.below ?_ (by assumption) (by first | exact Nat.le_refl _ | omega)))) _ 1 1 [.string (Pl.str x)] rfl rfl (Cells.block (heap_alloc_new _ _)) (by intro u hu; rw [List.mem_singleton.1 hu]; rfl) (by unfold maxLen; omega) (by omega) (by simp; omega) (o.length + 1) rfl (tcells (o ++ [x])) (by simp) ?_; intro A3 c3 w3 ho3 _ _ hb3))
        go_roundw
        case rel => exact ⟨k + 1, o ++ [x], A3, c3, by omega, by go_num, by simp, HV, by simp; omega, otexts_snoc ho3, (G.trans (by repeat (first | exact Grow.refl _ | assumption | refine Grow.alloc ?_ _ | refine Grow.drew ?_ | refine Grow.drewN ?_ _ | refine Grow.trans ?_ (by assumption) | refine Grow.below ?_ (by assumption) (by first | exact Nat.le_refl _ | omega)))).below hb3 (Nat.le_refl _), (Gw.trans (by repeat (first | exact Grow.refl _ | assumption | refine Grow.alloc ?_ _ | refine Grow.drew ?_ | refine Grow.drewN ?_ _ | refine Grow.trans ?_ (by assumption) | refine Grow.below ?_ (by assumption) (by first | exact Nat.le_refl _ | omega)))).below hb3 hs1⟩
        case measure => simp [intOf]; omega
    · have hk1 : ¬ (k : Int) < (ps.length : Int) := by omega
      have HV := Lib.hid (show o = R by rw [HR.out, HO.out, take_eq_all hlt])
      go_wp2_with fail
      go_ret
      exact ⟨A2, c2, by rw [← HV.out]; rfl, by rw [← HV.out]; exact own_lo o2 hs1, by rw [← HV.out]; omega, Gw⟩

end Go.Proofs.YtifdefkkofngoaaDoor
