/- Contracts of allocation, of the allocated addresses and of ways, in the program and in the reference. Conditions: the lengths are far from Go's bounds. -/
import Derived.Test.YtlcijjbeikoppaaSt6
namespace Go.Proofs.Ytlcijjbeikoppaa
open Go.RowKit
set_option linter.unusedVariables false

theorem oints_snoc {w : World} {lo c : Nat} {A : Option Addr} {l : List Int} {x : Int} (h : w.ownsRow lo 3 1 (.slice A (l.length + 1) c) (l.length + 1) ((l ++ [x]).map (Value.int .i64))) : OInts w lo (.slice A (l ++ [x]).length c) (l ++ [x]) := by
  show World.ownsRow _ _ _ _ (.slice _ (l ++ [x]).length _) (l ++ [x]).length _
  rw [List.length_append]; exact h
theorem oints_nil (w : World) (lo : Nat) : OInts w lo (.slice none ([] : List Int).length 0) [] := ⟨rfl, .inl ⟨rfl, rfl⟩⟩
theorem used_yes {h : List Int} {k : Nat} (hk : Pl.hasB h ((k : Int) + 1) = true) : Pl.usedTo h (k + 1) = Pl.usedTo h k ++ [(k : Int) + 1] := by
  show Pl.usedTo h k ++ _ = _; rw [if_pos hk]
theorem used_no {h : List Int} {k : Nat} (hk : Pl.hasB h ((k : Int) + 1) = false) : Pl.usedTo h (k + 1) = Pl.usedTo h k := by
  show Pl.usedTo h k ++ _ = _; rw [if_neg (by simp [hk]), List.append_nil]
/-- A slice that the call made. -/
def ROut (w : World) (l : List Int) (e : Ending) (w' : World) : Prop := ∃ A c, e = .returned (.slice A l.length c) ∧ OInts w' w.heap.size (.slice A l.length c) l ∧ Grow w w'

set_option maxRecDepth 100000 in
set_option maxHeartbeats 800000 in
theorem UsedCells_c (A B : Option Addr) (c d : Nat) (s : Pl.St) (w : World) (hS : Sts w A B s) (h1 : s.v.length ≤ 4194304) (h2 : s.h.length ≤ 4194304) :
    Calls Try.prog 20 #[sval A B c d s] w (ROut w (Pl.usedC s)) := by
  obtain ⟨v, h⟩ := s
  obtain ⟨i0, hi, hz0, hz1, hz2⟩ := info_parts int_info
  have y1 := Box2.new w 43 (.slice A v.length c) (.slice B h.length d)
  cases hs : Pl.stv ⟨v, h⟩ with
  | false =>
    have HS := Lib.hid hs
    have HX := Lib.hid (show Pl.usedC ⟨v, h⟩ = [] by unfold Pl.usedC; rw [hs]; rfl)
    clear hs
    go_enter Try.func20, Try.ntmps20
    go_wp2_with fail
    refine (StateValid_c A B c d ⟨v, h⟩ _ (hS.grow (by repeat (first | exact Grow.refl _ | assumption | refine Grow.alloc ?_ _ | refine Grow.drew ?_ | refine Grow.drewN ?_ _ | refine Grow.trans ?_ (by assumption) | refine Grow.below ?_ (by assumption) (by first | exact Nat.le_refl _ | omega)))) h1 h2).mono ?_
    rintro e w1 ⟨rfl, g1⟩
    rw [HS.out]
    go_wp2_with fail
    go_ret
    rw [HX.out]
    exact ⟨none, 0, rfl, oints_nil _ _, (by repeat (first | exact Grow.refl _ | assumption | refine Grow.alloc ?_ _ | refine Grow.drew ?_ | refine Grow.drewN ?_ _ | refine Grow.trans ?_ (by assumption) | refine Grow.below ?_ (by assumption) (by first | exact Nat.le_refl _ | omega)))⟩
  | true =>
    have HS := Lib.hid hs
    have hh8 := Lib.hid (show h.length = 8 from Pl.stv_h hs)
    have HX := Lib.hid (show Pl.usedC ⟨v, h⟩ = Pl.usedTo h 8 by unfold Pl.usedC; rw [hs]; rfl)
    have IB : Ints w B h := hS.h
    clear hs
    go_enter Try.func20, Try.ntmps20
    go_wp2_with fail
    refine (StateValid_c A B c d ⟨v, h⟩ _ (hS.grow (by repeat (first | exact Grow.refl _ | assumption | refine Grow.alloc ?_ _ | refine Grow.drew ?_ | refine Grow.drewN ?_ _ | refine Grow.trans ?_ (by assumption) | refine Grow.below ?_ (by assumption) (by first | exact Nat.le_refl _ | omega)))) h1 h2).mono ?_
    rintro e w1 ⟨rfl, g1⟩
    rw [HS.out]
    have y2 := y1.grow g1
    have G1 : Grow w w1 := (by repeat (first | exact Grow.refl _ | assumption | refine Grow.alloc ?_ _ | refine Grow.drew ?_ | refine Grow.drewN ?_ _ | refine Grow.trans ?_ (by assumption) | refine Grow.below ?_ (by assumption) (by first | exact Nat.le_refl _ | omega)))
    have hsz := y2.lt
    clear y1 g1 hS
    go_wp2_with fail
    go_loopw [3, 4] (fun u i wr => ∃ k : Nat, k ≤ 8 ∧ i = .int .i64 ((k : Int) + 1) ∧ Grow w1 wr ∧ ∃ (A : Option Addr) (c : Nat), u = .slice A (Pl.usedTo h k).length c ∧ OInts wr w1.heap.size (.slice A (Pl.usedTo h k).length c) (Pl.usedTo h k)) (fun _ i _ => 9 - (intOf i).toNat)
    case atStart => exact ⟨0, by omega, rfl, Grow.refl _, none, 0, rfl, oints_nil _ _⟩
    case round =>
      obtain ⟨k, hk, rfl, hg, A1, c1, rfl, o1⟩ := hrel
      have hul := Pl.usedTo_len h k
      by_cases hk8 : k < 8
      · have hk9 : (k : Int) + 1 ≤ 8 := by omega
        obtain ⟨k0, k1, _, _⟩ := (y2.grow hg).facts
        cases ha : Pl.hasB h ((k : Int) + 1) with
        | true =>
          have HA := Lib.hid ha
          have HU := Lib.hid (used_yes ha)
          clear ha
          go_wp2_with fail
          refine (allocated_c A B v.length c d h _ _ (IB.grow (by repeat (first | exact Grow.refl _ | assumption | refine Grow.alloc ?_ _ | refine Grow.drew ?_ | refine Grow.drewN ?_ _ | refine Grow.trans ?_ (by assumption) | refine Grow.below ?_ (by assumption) (by first | exact Nat.le_refl _ | omega)))) hh8.out).mono ?_
          rintro e w2 ⟨rfl, g2⟩
          rw [HA.out]
          have hs2 := (hg.trans g2).le
          go_wp2_with (at_builtin; go_must (refine wpList_append_src _ rfl _ _ 41 rfl w1.heap.size 3 i0 _ 1 8 Try.underlying41 hi hz0 hz1 hz2 rfl (by omega) _ (Pl.usedTo h k).length ((Pl.usedTo h k).map (Value.int .i64)) rfl (own_grow o1 (by repeat (first | exact Grow.refl _ | assumption | refine Grow.alloc ?_ _ | refine Grow.drew ?_ | refine Grow.drewN ?_ _ | refine Grow.trans ?_ (by assumption) | refine Grow.below ?_ (by assumption) (by first | exact Nat.le_refl _ | omega)))) _ 1 1 [.int .i64 ((k : Int) + 1)] rfl rfl (Cells.block (heap_alloc_new _ _)) (by intro u hu; rw [List.mem_singleton.1 hu]; rfl) (by unfold maxLen; omega) (by omega) (by simp; omega) ((Pl.usedTo h k).length + 1) rfl (((Pl.usedTo h k) ++ [((k : Int) + 1)]).map (Value.int .i64)) (by simp) ?_; intro A3 c3 w3 ho3 _ _ hb3))
          go_roundw
          case rel => exact ⟨k + 1, by omega, by go_num, (by repeat (first | exact Grow.refl _ | assumption | refine Grow.alloc ?_ _ | refine Grow.drew ?_ | refine Grow.drewN ?_ _ | refine Grow.trans ?_ (by assumption) | refine Grow.below ?_ (by assumption) (by first | exact Nat.le_refl _ | omega))), A3, c3, by rw [HU.out]; simp, by rw [HU.out]; exact oints_snoc ho3⟩
          case measure => simp [intOf]; omega
        | false =>
          have HA := Lib.hid ha
          have HU := Lib.hid (used_no ha)
          clear ha
          go_wp2_with fail
          refine (allocated_c A B v.length c d h _ _ (IB.grow (by repeat (first | exact Grow.refl _ | assumption | refine Grow.alloc ?_ _ | refine Grow.drew ?_ | refine Grow.drewN ?_ _ | refine Grow.trans ?_ (by assumption) | refine Grow.below ?_ (by assumption) (by first | exact Nat.le_refl _ | omega)))) hh8.out).mono ?_
          rintro e w2 ⟨rfl, g2⟩
          rw [HA.out]
          go_wp2_with fail
          go_roundw
          case rel => exact ⟨k + 1, by omega, by go_num, (by repeat (first | exact Grow.refl _ | assumption | refine Grow.alloc ?_ _ | refine Grow.drew ?_ | refine Grow.drewN ?_ _ | refine Grow.trans ?_ (by assumption) | refine Grow.below ?_ (by assumption) (by first | exact Nat.le_refl _ | omega))), A1, c1, by rw [HU.out], by rw [HU.out]; exact own_grow o1 g2⟩
          case measure => simp [intOf]; omega
      · have hk9 : 8 < (k : Int) + 1 := by omega
        have hk8' : k = 8 := by omega
        have HK := Lib.hid hk8'
        clear hk8'
        go_wp2_with fail
        go_ret
        rw [HX.out]
        rw [HK.out] at o1 ⊢
        exact ⟨A1, c1, rfl, own_lo o1 (by omega), (by repeat (first | exact Grow.refl _ | assumption | refine Grow.alloc ?_ _ | refine Grow.drew ?_ | refine Grow.drewN ?_ _ | refine Grow.trans ?_ (by assumption) | refine Grow.below ?_ (by assumption) (by first | exact Nat.le_refl _ | omega)))⟩

set_option maxRecDepth 100000 in
set_option maxHeartbeats 800000 in
theorem sUsedCells_c (A B : Option Addr) (c d : Nat) (s : Pl.St) (w : World) (hS : Sts w A B s) (h1 : s.v.length ≤ 4194304) (h2 : s.h.length ≤ 4194304) :
    Calls Try.prog 93 #[sval A B c d s] w (ROut w (Pl.usedC s)) := by
  obtain ⟨v, h⟩ := s
  obtain ⟨i0, hi, hz0, hz1, hz2⟩ := info_parts int_info
  cases hs : Pl.stv ⟨v, h⟩ with
  | false =>
    have HS := Lib.hid hs
    have HX := Lib.hid (show Pl.usedC ⟨v, h⟩ = [] by unfold Pl.usedC; rw [hs]; rfl)
    clear hs
    go_enter Try.func93, Try.ntmps93
    go_wp2_with fail
    have o0 : OInts ((w.alloc (.cells #[.slice A v.length c, .slice B h.length d] 43)).alloc (.cells #[] 3)) (w.heap.size + 1) (.slice (some ⟨w.heap.size + 1, 0, none⟩) ([] : List Int).length 0) [] := own_empty (heap_snd _ _ _) (Nat.le_refl _)
    have y1 := (Box2.new w 43 (.slice A v.length c) (.slice B h.length d)).grow (show Grow _ ((w.alloc (.cells #[.slice A v.length c, .slice B h.length d] 43)).alloc (.cells #[] 3)) from Grow.alloc (Grow.refl _) _)
    have G0 : Grow w ((w.alloc (.cells #[.slice A v.length c, .slice B h.length d] 43)).alloc (.cells #[] 3)) := (by repeat (first | exact Grow.refl _ | assumption | refine Grow.alloc ?_ _ | refine Grow.drew ?_ | refine Grow.drewN ?_ _ | refine Grow.trans ?_ (by assumption) | refine Grow.below ?_ (by assumption) (by first | exact Nat.le_refl _ | omega)))
    go_loopw [3, 4] (fun u i wr => u = .slice (some ⟨w.heap.size + 1, 0, none⟩) 0 0 ∧ i = .int .i64 1 ∧ Grow ((w.alloc (.cells #[.slice A v.length c, .slice B h.length d] 43)).alloc (.cells #[] 3)) wr) (fun _ i _ => 0)
    case atStart => exact ⟨rfl, rfl, Grow.refl _⟩
    case round =>
      obtain ⟨rfl, rfl, hg⟩ := hrel
      obtain ⟨k0, k1, _, _⟩ := (y1.grow hg).facts
      go_wp2_with fail
      refine (sStateValid_c A B c d ⟨v, h⟩ _ (hS.grow (G0.trans hg)) h1 h2).mono ?_
      rintro e w1 ⟨rfl, g1⟩
      rw [HS.out]
      go_wp2_with fail
      go_ret
      rw [HX.out]
      exact ⟨some ⟨w.heap.size + 1, 0, none⟩, 0, rfl, own_lo (own_grow o0 (hg.trans g1)) (by omega), G0.trans (hg.trans g1)⟩
  | true =>
    have HS := Lib.hid hs
    have hh8 := Lib.hid (show h.length = 8 from Pl.stv_h hs)
    have HX := Lib.hid (show Pl.usedC ⟨v, h⟩ = Pl.usedTo h 8 by unfold Pl.usedC; rw [hs]; rfl)
    have IB : Ints w B h := hS.h
    clear hs
    go_enter Try.func93, Try.ntmps93
    go_wp2_with fail
    have o0 : OInts ((w.alloc (.cells #[.slice A v.length c, .slice B h.length d] 43)).alloc (.cells #[] 3)) (w.heap.size + 1) (.slice (some ⟨w.heap.size + 1, 0, none⟩) ([] : List Int).length 0) [] := own_empty (heap_snd _ _ _) (Nat.le_refl _)
    have y2 := (Box2.new w 43 (.slice A v.length c) (.slice B h.length d)).grow (show Grow _ ((w.alloc (.cells #[.slice A v.length c, .slice B h.length d] 43)).alloc (.cells #[] 3)) from Grow.alloc (Grow.refl _) _)
    have G1 : Grow w ((w.alloc (.cells #[.slice A v.length c, .slice B h.length d] 43)).alloc (.cells #[] 3)) := (by repeat (first | exact Grow.refl _ | assumption | refine Grow.alloc ?_ _ | refine Grow.drew ?_ | refine Grow.drewN ?_ _ | refine Grow.trans ?_ (by assumption) | refine Grow.below ?_ (by assumption) (by first | exact Nat.le_refl _ | omega)))
    have hsz : ((w.alloc (.cells #[.slice A v.length c, .slice B h.length d] 43)).alloc (.cells #[] 3)).heap.size = w.heap.size + 1 + 1 := by simp
    generalize (w.alloc (.cells #[.slice A v.length c, .slice B h.length d] 43)).alloc (.cells #[] 3) = w1 at *
    have HSZ := Lib.hid hsz
    have hsz2 : w.heap.size + 1 < w1.heap.size := by omega
    clear hsz
    go_loopw [3, 4] (fun u i wr => ∃ k : Nat, k ≤ 8 ∧ i = .int .i64 ((k : Int) + 1) ∧ Below (w.heap.size + 1) w1 wr ∧ ∃ (A : Option Addr) (c : Nat), u = .slice A (Pl.usedTo h k).length c ∧ OInts wr (w.heap.size + 1) (.slice A (Pl.usedTo h k).length c) (Pl.usedTo h k)) (fun _ i _ => 9 - (intOf i).toNat)
    case atStart => exact ⟨0, by omega, rfl, Below.refl _ _, _, _, rfl, o0⟩
    case round =>
      obtain ⟨k, hk, rfl, hg, A1, c1, rfl, o1⟩ := hrel
      have hul := Pl.usedTo_len h k
      have hGr : Grow w wr := G1.below hg (by omega)
      have y3 : Box2 wr w.heap.size 43 (.slice A v.length c) (.slice B h.length d) := (hg.block w.heap.size (by omega)).trans y2
      have hszr : w.heap.size + 1 < wr.heap.size := by have := hg.size; omega
      obtain ⟨k0, k1, _, _⟩ := y3.facts
      by_cases hk8 : k < 8
      · have hk9 : (k : Int) + 1 ≤ 8 := by omega
        cases ha : Pl.hasB h ((k : Int) + 1) with
        | true =>
          have HA := Lib.hid ha
          have HU := Lib.hid (used_yes ha)
          clear ha
          go_wp2_with fail
          refine (sStateValid_c A B c d ⟨v, h⟩ _ (hS.grow hGr) h1 h2).mono ?_
          rintro e w4 ⟨rfl, g4⟩
          rw [HS.out]
          have j0 := g4.cell k0
          have j1 := g4.cell k1
          clear k0 k1
          go_wp2_with fail
          refine (l2Has_c A B v.length c d h _ _ (IB.grow (hGr.trans g4)) hh8.out).mono ?_
          rintro e w2 ⟨rfl, g2⟩
          rw [HA.out]
          have o2 := own_grow (own_grow o1 g4) g2
          have b2 : Below (w.heap.size + 1) w1 w2 := (hg.trans (g4.mono (by omega))).trans (g2.mono (by have := g4.le; omega))
          have hsz3 := b2.size
          clear g4 g2 o1
          go_wp2_with (at_builtin; go_must (refine wpList_append_src _ rfl _ _ 41 rfl (w.heap.size + 1) 3 i0 _ 1 8 Try.underlying41 hi hz0 hz1 hz2 rfl (by omega) _ (Pl.usedTo h k).length ((Pl.usedTo h k).map (Value.int .i64)) rfl (own_grow o2 (by repeat (first | exact Grow.refl _ | assumption | refine Grow.alloc ?_ _ | refine Grow.drew ?_ | refine Grow.drewN ?_ _ | refine Grow.trans ?_ (by assumption) | refine Grow.below ?_ (by assumption) (by first | exact Nat.le_refl _ | omega)))) _ 1 1 [.int .i64 ((k : Int) + 1)] rfl rfl (Cells.block (heap_alloc_new _ _)) (by intro u hu; rw [List.mem_singleton.1 hu]; rfl) (by unfold maxLen; omega) (by omega) (by simp; omega) ((Pl.usedTo h k).length + 1) rfl (((Pl.usedTo h k) ++ [((k : Int) + 1)]).map (Value.int .i64)) (by simp) ?_; intro A3 c3 w3 ho3 _ _ hb3))
          go_roundw
          case rel => exact ⟨k + 1, by omega, by go_num, (b2.trans (Below.alloc (Below.refl _ _) (by omega) _)).trans hb3, A3, c3, by rw [HU.out]; simp, by rw [HU.out]; exact oints_snoc ho3⟩
          case measure => simp [intOf]; omega
        | false =>
          have HA := Lib.hid ha
          have HU := Lib.hid (used_no ha)
          clear ha
          go_wp2_with fail
          refine (sStateValid_c A B c d ⟨v, h⟩ _ (hS.grow hGr) h1 h2).mono ?_
          rintro e w4 ⟨rfl, g4⟩
          rw [HS.out]
          have j0 := g4.cell k0
          have j1 := g4.cell k1
          clear k0 k1
          go_wp2_with fail
          refine (l2Has_c A B v.length c d h _ _ (IB.grow (hGr.trans g4)) hh8.out).mono ?_
          rintro e w2 ⟨rfl, g2⟩
          rw [HA.out]
          have b2 : Below (w.heap.size + 1) w1 w2 := (hg.trans (g4.mono (by omega))).trans (g2.mono (by have := g4.le; omega))
          go_wp2_with fail
          go_roundw
          case rel => exact ⟨k + 1, by omega, by go_num, b2, A1, c1, by rw [HU.out], by rw [HU.out]; exact own_grow (own_grow o1 g4) g2⟩
          case measure => simp [intOf]; omega
      · have hk9 : 8 < (k : Int) + 1 := by omega
        have hk8' : k = 8 := by omega
        have HK := Lib.hid hk8'
        clear hk8'
        go_wp2_with fail
        go_ret
        rw [HX.out]
        rw [HK.out] at o1 ⊢
        exact ⟨A1, c1, rfl, own_lo o1 (by omega), hGr⟩

end Go.Proofs.Ytlcijjbeikoppaa
