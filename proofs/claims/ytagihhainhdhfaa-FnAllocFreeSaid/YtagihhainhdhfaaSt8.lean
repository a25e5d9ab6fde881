/- Contracts of allocation and of ways, in the program and in the reference. Conditions: the lengths are far from Go's bounds. -/
import Derived.Test.YtagihhainhdhfaaSt7
namespace Go.Proofs.Ytagihhainhdhfaa
open Go.RowKit
set_option linter.unusedVariables false

/-- What an allocation returns: a state in new memory, an address, and whether it went well. -/
def RSt3 (w : World) (r : Pl.St × Int × Bool) (e : Ending) (w' : World) : Prop := ∃ A B c d, e = .returned (.tuple #[sval A B c d r.1, .int .i64 r.2.1, .bool r.2.2]) ∧ OSt w' w.heap.size A B c d r.1 ∧ Grow w w'
theorem RSt3.no {w w' : World} {r : Pl.St × Int × Bool} {e : Ending} (hr : r = (Pl.emp, 0, false)) (he : e = .returned (.tuple #[.agg #[.slice none 0 0, .slice none 0 0], .int .i64 0, .bool false])) (hg : Grow w w') : RSt3 w r e w' := by
  subst hr he; exact ⟨none, none, 0, 0, rfl, OSt.emp _ _, hg⟩
theorem end3 {w w1 : World} {lo g c d k : Nat} {A : Option Addr} {v h : List Int} {r : Pl.St × Int × Bool} {x a : Int} (b : Nat) (hb : w.heap.size ≤ b) (hlo : b < lo) (hG : Grow w w1) (ho : OSt w1 lo A (some ⟨g, 0, none⟩) c d ⟨v, h⟩) (hr : r = (⟨v, h.set k x⟩, a, true)) (hgl : lo ≤ g) (o : Obj) (e : Ending) (he : e = .returned (.tuple #[.agg #[.slice A v.length c, .slice (some ⟨g, 0, none⟩) h.length d], .int .i64 a, .bool true])) (u1 u2 : Value) :
    RSt3 w r e ((((w1.setCell ⟨g, k, none⟩ (.int .i64 x)).setCell ⟨b, 0, none⟩ u1).setCell ⟨b, 1, none⟩ u2).alloc o) := by
  subst hr he
  have h1 := ho.setH (k := k) x
  exact ⟨_, _, _, _, by rw [sval_setH], (((h1.far hlo u1).far hlo u2).grow (Grow.alloc (Grow.refl _) o)).lo (by omega), (((hG.setCell (by show w.heap.size ≤ g; omega) _).setCell hb _).setCell hb _).alloc o⟩



set_option maxHeartbeats 800000 in
theorem AllocCell_c (A B : Option Addr) (c d : Nat) (s : Pl.St) (w : World) (hS : Sts w A B s) (h1 : s.v.length ≤ 4194304) (h2 : s.h.length ≤ 4194304) :
    Calls Try.prog 32 #[sval A B c d s] w (RSt3 w (Pl.allocC s)) := by
  obtain ⟨v, h⟩ := s
  have y2 := Box2.new (w.alloc (.cells #[.slice A v.length c, .slice B h.length d] 25)) 25 (.slice none 0 0) (.slice none 0 0)
  simp only [World.size_alloc] at y2
  have y1 := Box2.new w 25 (.slice A v.length c) (.slice B h.length d)
  cases hs : Pl.stv ⟨v, h⟩ with
  | false =>
    have HS := Lib.hid hs
    have HX := Lib.hid (Pl.allocC_bad hs)
    clear hs
    go_enter Try.func32, Try.ntmps32
    go_wp2_with fail
    refine (StateValid_c A B c d ⟨v, h⟩ _ (hS.grow (by repeat (first | exact Grow.refl _ | assumption | refine Grow.alloc ?_ _ | refine Grow.drew ?_ | refine Grow.drewN ?_ _ | refine Grow.trans ?_ (by assumption) | refine Grow.below ?_ (by assumption) (by first | exact Nat.le_refl _ | omega)))) h1 h2).mono ?_
    rintro e w1 ⟨rfl, g1⟩
    rw [HS.out]
    obtain ⟨j0, j1, e0, e1⟩ := (y2.grow g1).facts
    go_wp2_with fail
    refine bodyPost_ret (v := .tuple #[.agg #[.slice none 0 0, .slice none 0 0], .int .i64 0, .bool false]) (by simp [results, Try.results32, go_sem, j0, j1]) rfl (RSt3.no HX.out rfl ?_)
    exact ((show Grow w w1 from (by repeat (first | exact Grow.refl _ | assumption | refine Grow.alloc ?_ _ | refine Grow.drew ?_ | refine Grow.drewN ?_ _ | refine Grow.trans ?_ (by assumption) | refine Grow.below ?_ (by assumption) (by first | exact Nat.le_refl _ | omega)))).setCell (by show w.heap.size ≤ w.heap.size + 1; omega) _).setCell (by show w.heap.size ≤ w.heap.size + 1; omega) _
  | true =>
    have HS := Lib.hid hs
    have h8 : h.length = 8 := Pl.stv_h hs
    have hh8 := Lib.hid h8
    have IB : Ints w B h := hS.h
    rcases Pl.free_or h with ⟨n, hf⟩ | hf
    · obtain ⟨m, rfl⟩ : ∃ m, n = m + 1 := ⟨n - 1, by have := hf.1; omega⟩
      have hm : m < h.length := by have := hf.1; omega
      have hm8 : m < 8 := by omega
      have HX := Lib.hid (show Pl.allocC ⟨v, h⟩ = (⟨v, h.set m 0⟩, (m : Int) + 1, true) from Pl.allocC_some hs hf)
      have HF := Lib.hid hf
      clear hs h8 hf
      go_enter Try.func32, Try.ntmps32
      go_wp2_with fail
      refine (StateValid_c A B c d ⟨v, h⟩ _ (hS.grow (by repeat (first | exact Grow.refl _ | assumption | refine Grow.alloc ?_ _ | refine Grow.drew ?_ | refine Grow.drewN ?_ _ | refine Grow.trans ?_ (by assumption) | refine Grow.below ?_ (by assumption) (by first | exact Nat.le_refl _ | omega)))) h1 h2).mono ?_
      rintro e w1 ⟨rfl, g1⟩
      rw [HS.out]
      have y3 := y2.grow g1
      have y4 := y1.grow (show Grow _ w1 from (by repeat (first | exact Grow.refl _ | assumption | refine Grow.alloc ?_ _ | refine Grow.drew ?_ | refine Grow.drewN ?_ _ | refine Grow.trans ?_ (by assumption) | refine Grow.below ?_ (by assumption) (by first | exact Nat.le_refl _ | omega))))
      have G1 : Grow w w1 := (by repeat (first | exact Grow.refl _ | assumption | refine Grow.alloc ?_ _ | refine Grow.drew ?_ | refine Grow.drewN ?_ _ | refine Grow.trans ?_ (by assumption) | refine Grow.below ?_ (by assumption) (by first | exact Nat.le_refl _ | omega)))
      clear y1 y2 g1
      go_wp2_with fail
      go_loopw [5] (fun i wr => ∃ k : Nat, k ≤ m ∧ i = .int .i64 ((k : Int) + 1) ∧ Grow w1 wr) (fun i _ => 9 - (intOf i).toNat)
      case atStart => exact ⟨0, by omega, rfl, Grow.refl _⟩
      case round =>
        obtain ⟨k, hk, rfl, hg⟩ := hrel
        obtain ⟨k0, k1, _, _⟩ := (y4.grow hg).facts
        have hk9 : (k : Int) + 1 ≤ 8 := by omega
        by_cases hkm : k < m
        · have HA := Lib.hid (show Pl.hasB h ((k : Int) + 1) = true from HF.out.2.1 (k + 1) (by omega) (by omega))
          go_wp2_with fail
          refine (allocated_c A B v.length c d h _ _ (IB.grow (by repeat (first | exact Grow.refl _ | assumption | refine Grow.alloc ?_ _ | refine Grow.drew ?_ | refine Grow.drewN ?_ _ | refine Grow.trans ?_ (by assumption) | refine Grow.below ?_ (by assumption) (by first | exact Nat.le_refl _ | omega)))) hh8.out).mono ?_
          rintro e w2 ⟨rfl, g2⟩
          rw [HA.out]
          go_wp2_with fail
          go_roundw
          case rel => exact ⟨k + 1, by omega, by go_num, (by repeat (first | exact Grow.refl _ | assumption | refine Grow.alloc ?_ _ | refine Grow.drew ?_ | refine Grow.drewN ?_ _ | refine Grow.trans ?_ (by assumption) | refine Grow.below ?_ (by assumption) (by first | exact Nat.le_refl _ | omega)))⟩
          case measure => simp [intOf]; omega
        · obtain rfl : m = k := by omega
          have HA := Lib.hid (show Pl.hasB h ((m : Int) + 1) = false from HF.out.2.2)
          have y3 := y3.grow hg
          have y4 := y4.grow hg
          go_wp2_with fail
          refine (allocated_c A B v.length c d h _ _ (IB.grow (by repeat (first | exact Grow.refl _ | assumption | refine Grow.alloc ?_ _ | refine Grow.drew ?_ | refine Grow.drewN ?_ _ | refine Grow.trans ?_ (by assumption) | refine Grow.below ?_ (by assumption) (by first | exact Nat.le_refl _ | omega)))) hh8.out).mono ?_
          rintro e w2 ⟨rfl, g2⟩
          rw [HA.out]
          clear k0 k1
          have y5 := y3.grow g2
          obtain ⟨k0, k1, _, _⟩ := (y4.grow g2).facts
          have hlt := y5.lt
          go_wp2_with fail
          refine (copyState_c A B c d ⟨v, h⟩ _ (hS.grow (show Grow w w2 from (by repeat (first | exact Grow.refl _ | assumption | refine Grow.alloc ?_ _ | refine Grow.drew ?_ | refine Grow.drewN ?_ _ | refine Grow.trans ?_ (by assumption) | refine Grow.below ?_ (by assumption) (by first | exact Nat.le_refl _ | omega))))) h1 h2).mono ?_
          rintro e w3 ⟨A2, B2, c2, d2, rfl, o2, g3⟩
          obtain ⟨g, rfl, hgl, hgs⟩ := own_some o2.h (by show 0 < h.length; omega)
          obtain ⟨j0, j1, e0, e1⟩ := (y5.grow g3).facts
          obtain ⟨u0, c0⟩ : ∃ u, w3.cell? ⟨g, m, none⟩ = some u := ⟨_, own_cellAt o2.h (show (h.map (Value.int .i64))[m]? = some (.int .i64 h[m]) by simp [hm])⟩
          have f0 := World.ownsRow.frozenAt o2.h m
          have hlt2 : w.heap.size + 1 < w3.heap.size := by have := g3.le; omega
          have hne : ¬ g = w.heap.size + 1 := by omega
          have hne2 : ¬ w.heap.size + 1 = g := by omega
          have hne3 : (g == w.heap.size + 1) = false := by simp; omega
          have hne4 : (w.heap.size + 1 == g) = false := by simp; omega
          have G3 : Grow w w3 := (by repeat (first | exact Grow.refl _ | assumption | refine Grow.alloc ?_ _ | refine Grow.drew ?_ | refine Grow.drewN ?_ _ | refine Grow.trans ?_ (by assumption) | refine Grow.below ?_ (by assumption) (by first | exact Nat.le_refl _ | omega)))
          clear k0 k1
          go_wp2_with fail
          refine bodyPost_ret (v := .tuple #[.agg #[.slice A2 v.length c2, .slice (some ⟨g, 0, none⟩) h.length d2], .int .i64 ((m : Int) + 1), .bool true]) (by simp [results, Try.results32, go_sem, j0, j1, hlt2]) rfl ?_
          exact end3 (w.heap.size + 1) (by omega) (by omega) G3 o2 HX.out hgl _ _ rfl _ _
    · have HX := Lib.hid (Pl.allocC_none (s := ⟨v, h⟩) hf)
      have HF := Lib.hid hf
      clear hs h8 hf
      go_enter Try.func32, Try.ntmps32
      go_wp2_with fail
      refine (StateValid_c A B c d ⟨v, h⟩ _ (hS.grow (by repeat (first | exact Grow.refl _ | assumption | refine Grow.alloc ?_ _ | refine Grow.drew ?_ | refine Grow.drewN ?_ _ | refine Grow.trans ?_ (by assumption) | refine Grow.below ?_ (by assumption) (by first | exact Nat.le_refl _ | omega)))) h1 h2).mono ?_
      rintro e w1 ⟨rfl, g1⟩
      rw [HS.out]
      have y3 := y2.grow g1
      have y4 := y1.grow (show Grow _ w1 from (by repeat (first | exact Grow.refl _ | assumption | refine Grow.alloc ?_ _ | refine Grow.drew ?_ | refine Grow.drewN ?_ _ | refine Grow.trans ?_ (by assumption) | refine Grow.below ?_ (by assumption) (by first | exact Nat.le_refl _ | omega))))
      have G1 : Grow w w1 := (by repeat (first | exact Grow.refl _ | assumption | refine Grow.alloc ?_ _ | refine Grow.drew ?_ | refine Grow.drewN ?_ _ | refine Grow.trans ?_ (by assumption) | refine Grow.below ?_ (by assumption) (by first | exact Nat.le_refl _ | omega)))
      clear y1 y2 g1
      go_wp2_with fail
      go_loopw [5] (fun i wr => ∃ k : Nat, k ≤ 8 ∧ i = .int .i64 ((k : Int) + 1) ∧ Grow w1 wr) (fun i _ => 9 - (intOf i).toNat)
      case atStart => exact ⟨0, by omega, rfl, Grow.refl _⟩
      case round =>
        obtain ⟨k, hk, rfl, hg⟩ := hrel
        by_cases hkm : k < 8
        · obtain ⟨k0, k1, _, _⟩ := (y4.grow hg).facts
          have hk9 : (k : Int) + 1 ≤ 8 := by omega
          have HA := Lib.hid (show Pl.hasB h ((k : Int) + 1) = true from HF.out (k + 1) (by omega) (by omega))
          go_wp2_with fail
          refine (allocated_c A B v.length c d h _ _ (IB.grow (by repeat (first | exact Grow.refl _ | assumption | refine Grow.alloc ?_ _ | refine Grow.drew ?_ | refine Grow.drewN ?_ _ | refine Grow.trans ?_ (by assumption) | refine Grow.below ?_ (by assumption) (by first | exact Nat.le_refl _ | omega)))) hh8.out).mono ?_
          rintro e w2 ⟨rfl, g2⟩
          rw [HA.out]
          go_wp2_with fail
          go_roundw
          case rel => exact ⟨k + 1, by omega, by go_num, (by repeat (first | exact Grow.refl _ | assumption | refine Grow.alloc ?_ _ | refine Grow.drew ?_ | refine Grow.drewN ?_ _ | refine Grow.trans ?_ (by assumption) | refine Grow.below ?_ (by assumption) (by first | exact Nat.le_refl _ | omega)))⟩
          case measure => simp [intOf]; omega
        · have hk9 : 8 < (k : Int) + 1 := by omega
          obtain ⟨j0, j1, e0, e1⟩ := (y3.grow hg).facts
          go_wp2_with fail
          refine bodyPost_ret (v := .tuple #[.agg #[.slice none 0 0, .slice none 0 0], .int .i64 0, .bool false]) (by simp [results, Try.results32, go_sem, j0, j1]) rfl (RSt3.no HX.out rfl ?_)
          exact ((show Grow w wr from (by repeat (first | exact Grow.refl _ | assumption | refine Grow.alloc ?_ _ | refine Grow.drew ?_ | refine Grow.drewN ?_ _ | refine Grow.trans ?_ (by assumption) | refine Grow.below ?_ (by assumption) (by first | exact Nat.le_refl _ | omega)))).setCell (by show w.heap.size ≤ w.heap.size + 1; omega) _).setCell (by show w.heap.size ≤ w.heap.size + 1; omega) _

set_option maxHeartbeats 800000 in
theorem sAllocCell_c (A B : Option Addr) (c d : Nat) (s : Pl.St) (w : World) (hS : Sts w A B s) (h1 : s.v.length ≤ 4194304) (h2 : s.h.length ≤ 4194304) :
    Calls Try.prog 33 #[sval A B c d s] w (RSt3 w (Pl.allocC s)) := by
  obtain ⟨v, h⟩ := s
  have y2 := Box2.new (w.alloc (.cells #[.slice A v.length c, .slice B h.length d] 25)) 25 (.slice none 0 0) (.slice none 0 0)
  simp only [World.size_alloc] at y2
  have y1 := (Box2.new w 25 (.slice A v.length c) (.slice B h.length d)).grow (show Grow _ ((w.alloc (.cells #[.slice A v.length c, .slice B h.length d] 25)).alloc (.cells #[.slice none 0 0, .slice none 0 0] 25)) from Grow.alloc (Grow.refl _) _)
  have G1 : Grow w ((w.alloc (.cells #[.slice A v.length c, .slice B h.length d] 25)).alloc (.cells #[.slice none 0 0, .slice none 0 0] 25)) := (by repeat (first | exact Grow.refl _ | assumption | refine Grow.alloc ?_ _ | refine Grow.drew ?_ | refine Grow.drewN ?_ _ | refine Grow.trans ?_ (by assumption) | refine Grow.below ?_ (by assumption) (by first | exact Nat.le_refl _ | omega)))
  cases hs : Pl.stv ⟨v, h⟩ with
  | false =>
    have HS := Lib.hid hs
    have HX := Lib.hid (Pl.allocC_bad hs)
    clear hs
    go_enter Try.func33, Try.ntmps33
    go_wp2_with fail
    generalize (w.alloc (.cells #[.slice A v.length c, .slice B h.length d] 25)).alloc (.cells #[.slice none 0 0, .slice none 0 0] 25) = w1 at *
    go_loopw [5] (fun i wr => i = .int .i64 1 ∧ Grow w1 wr) (fun i _ => 0)
    case atStart => exact ⟨rfl, Grow.refl _⟩
    case round =>
      obtain ⟨rfl, hg⟩ := hrel
      obtain ⟨k0, k1, _, _⟩ := (y1.grow hg).facts
      go_wp2_with fail
      refine (sStateValid_c A B c d ⟨v, h⟩ _ (hS.grow (G1.trans hg)) h1 h2).mono ?_
      rintro e w2 ⟨rfl, g2⟩
      rw [HS.out]
      obtain ⟨j0, j1, e0, e1⟩ := ((y2.grow hg).grow g2).facts
      go_wp2_with fail
      refine bodyPost_ret (v := .tuple #[.agg #[.slice none 0 0, .slice none 0 0], .int .i64 0, .bool false]) (by simp [results, Try.results33, go_sem, j0, j1]) rfl (RSt3.no HX.out rfl ?_)
      exact ((show Grow w w2 from (by repeat (first | exact Grow.refl _ | assumption | refine Grow.alloc ?_ _ | refine Grow.drew ?_ | refine Grow.drewN ?_ _ | refine Grow.trans ?_ (by assumption) | refine Grow.below ?_ (by assumption) (by first | exact Nat.le_refl _ | omega)))).setCell (by show w.heap.size ≤ w.heap.size + 1; omega) _).setCell (by show w.heap.size ≤ w.heap.size + 1; omega) _
  | true =>
    have HS := Lib.hid hs
    have h8 : h.length = 8 := Pl.stv_h hs
    have hh8 := Lib.hid h8
    have IB : Ints w B h := hS.h
    rcases Pl.free_or h with ⟨n, hf⟩ | hf
    · obtain ⟨m, rfl⟩ : ∃ m, n = m + 1 := ⟨n - 1, by have := hf.1; omega⟩
      have hm : m < h.length := by have := hf.1; omega
      have hm8 : m < 8 := by omega
      have HX := Lib.hid (show Pl.allocC ⟨v, h⟩ = (⟨v, h.set m 0⟩, (m : Int) + 1, true) from Pl.allocC_some hs hf)
      have HF := Lib.hid hf
      clear hs h8 hf
      go_enter Try.func33, Try.ntmps33
      go_wp2_with fail
      generalize (w.alloc (.cells #[.slice A v.length c, .slice B h.length d] 25)).alloc (.cells #[.slice none 0 0, .slice none 0 0] 25) = w1 at *
      go_loopw [5] (fun i wr => ∃ k : Nat, k ≤ m ∧ i = .int .i64 ((k : Int) + 1) ∧ Grow w1 wr) (fun i _ => 9 - (intOf i).toNat)
      case atStart => exact ⟨0, by omega, rfl, Grow.refl _⟩
      case round =>
        obtain ⟨k, hk, rfl, hg⟩ := hrel
        obtain ⟨k0, k1, _, _⟩ := (y1.grow hg).facts
        have hk9 : (k : Int) + 1 ≤ 8 := by omega
        go_wp2_with fail
        refine (sStateValid_c A B c d ⟨v, h⟩ _ (hS.grow (G1.trans hg)) h1 h2).mono ?_
        rintro e w4 ⟨rfl, g4⟩
        rw [HS.out]
        have hg4 := hg.trans g4
        clear k0 k1
        obtain ⟨k0, k1, _, _⟩ := (y1.grow hg4).facts
        by_cases hkm : k < m
        · have HA := Lib.hid (show Pl.hasB h ((k : Int) + 1) = true from HF.out.2.1 (k + 1) (by omega) (by omega))
          go_wp2_with fail
          refine (l2Has_c A B v.length c d h _ _ (IB.grow (G1.trans hg4)) hh8.out).mono ?_
          rintro e w2 ⟨rfl, g2⟩
          rw [HA.out]
          go_wp2_with fail
          go_roundw
          case rel => exact ⟨k + 1, by omega, by go_num, hg4.trans g2⟩
          case measure => simp [intOf]; omega
        · obtain rfl : m = k := by omega
          have HA := Lib.hid (show Pl.hasB h ((m : Int) + 1) = false from HF.out.2.2)
          have y3 := y2.grow hg4
          have y4 := y1.grow hg4
          go_wp2_with fail
          refine (l2Has_c A B v.length c d h _ _ (IB.grow (G1.trans hg4)) hh8.out).mono ?_
          rintro e w2 ⟨rfl, g2⟩
          rw [HA.out]
          have G2 := (G1.trans hg4).trans g2
          clear k0 k1
          have y5 := y3.grow g2
          obtain ⟨k0, k1, _, _⟩ := (y4.grow g2).facts
          have hlt := y5.lt
          go_wp2_with fail
          refine (l2Copy_c A B c d ⟨v, h⟩ _ (hS.grow (show Grow w w2 from (by repeat (first | exact Grow.refl _ | assumption | refine Grow.alloc ?_ _ | refine Grow.drew ?_ | refine Grow.drewN ?_ _ | refine Grow.trans ?_ (by assumption) | refine Grow.below ?_ (by assumption) (by first | exact Nat.le_refl _ | omega))))) h1 h2).mono ?_
          rintro e w3 ⟨A2, B2, c2, d2, rfl, o2, g3⟩
          obtain ⟨g, rfl, hgl, hgs⟩ := own_some o2.h (by show 0 < h.length; omega)
          obtain ⟨j0, j1, e0, e1⟩ := (y5.grow g3).facts
          obtain ⟨u0, c0⟩ : ∃ u, w3.cell? ⟨g, m, none⟩ = some u := ⟨_, own_cellAt o2.h (show (h.map (Value.int .i64))[m]? = some (.int .i64 h[m]) by simp [hm])⟩
          have f0 := World.ownsRow.frozenAt o2.h m
          have hlt2 : w.heap.size + 1 < w3.heap.size := by have := g3.le; omega
          have hne : ¬ g = w.heap.size + 1 := by omega
          have hne2 : ¬ w.heap.size + 1 = g := by omega
          have hne3 : (g == w.heap.size + 1) = false := by simp; omega
          have hne4 : (w.heap.size + 1 == g) = false := by simp; omega
          have G3 : Grow w w3 := (by repeat (first | exact Grow.refl _ | assumption | refine Grow.alloc ?_ _ | refine Grow.drew ?_ | refine Grow.drewN ?_ _ | refine Grow.trans ?_ (by assumption) | refine Grow.below ?_ (by assumption) (by first | exact Nat.le_refl _ | omega)))
          clear k0 k1
          go_wp2_with fail
          refine bodyPost_ret (v := .tuple #[.agg #[.slice A2 v.length c2, .slice (some ⟨g, 0, none⟩) h.length d2], .int .i64 ((m : Int) + 1), .bool true]) (by simp [results, Try.results33, go_sem, j0, j1, hlt2]) rfl ?_
          exact end3 (w.heap.size + 1) (by omega) (by omega) G3 o2 HX.out hgl _ _ rfl _ _
    · have HX := Lib.hid (Pl.allocC_none (s := ⟨v, h⟩) hf)
      have HF := Lib.hid hf
      clear hs h8 hf
      go_enter Try.func33, Try.ntmps33
      go_wp2_with fail
      generalize (w.alloc (.cells #[.slice A v.length c, .slice B h.length d] 25)).alloc (.cells #[.slice none 0 0, .slice none 0 0] 25) = w1 at *
      go_loopw [5] (fun i wr => ∃ k : Nat, k ≤ 8 ∧ i = .int .i64 ((k : Int) + 1) ∧ Grow w1 wr) (fun i _ => 9 - (intOf i).toNat)
      case atStart => exact ⟨0, by omega, rfl, Grow.refl _⟩
      case round =>
        obtain ⟨k, hk, rfl, hg⟩ := hrel
        obtain ⟨k0, k1, _, _⟩ := (y1.grow hg).facts
        by_cases hkm : k < 8
        · have hk9 : (k : Int) + 1 ≤ 8 := by omega
          go_wp2_with fail
          refine (sStateValid_c A B c d ⟨v, h⟩ _ (hS.grow (G1.trans hg)) h1 h2).mono ?_
          rintro e w4 ⟨rfl, g4⟩
          rw [HS.out]
          have hg4 := hg.trans g4
          clear k0 k1
          obtain ⟨k0, k1, _, _⟩ := (y1.grow hg4).facts
          have HA := Lib.hid (show Pl.hasB h ((k : Int) + 1) = true from HF.out (k + 1) (by omega) (by omega))
          go_wp2_with fail
          refine (l2Has_c A B v.length c d h _ _ (IB.grow (G1.trans hg4)) hh8.out).mono ?_
          rintro e w2 ⟨rfl, g2⟩
          rw [HA.out]
          go_wp2_with fail
          go_roundw
          case rel => exact ⟨k + 1, by omega, by go_num, hg4.trans g2⟩
          case measure => simp [intOf]; omega
        · have hk9 : 8 < (k : Int) + 1 := by omega
          obtain ⟨j0, j1, e0, e1⟩ := (y2.grow hg).facts
          have hGr := G1.trans hg
          go_wp2_with fail
          refine bodyPost_ret (v := .tuple #[.agg #[.slice none 0 0, .slice none 0 0], .int .i64 0, .bool false]) (by simp [results, Try.results33, go_sem, j0, j1]) rfl (RSt3.no HX.out rfl ?_)
          exact ((show Grow w wr from (by repeat (first | exact Grow.refl _ | assumption | refine Grow.alloc ?_ _ | refine Grow.drew ?_ | refine Grow.drewN ?_ _ | refine Grow.trans ?_ (by assumption) | refine Grow.below ?_ (by assumption) (by first | exact Nat.le_refl _ | omega)))).setCell (by show w.heap.size ≤ w.heap.size + 1; omega) _).setCell (by show w.heap.size ≤ w.heap.size + 1; omega) _

/-- What a walk returns: the addresses on the way, and whether it arrived. -/
def RWay (w : World) (r : List Int × Bool) (e : Ending) (w' : World) : Prop := ∃ A c, e = .returned (.tuple #[.slice A r.1.length c, .bool r.2]) ∧ OInts w' w.heap.size (.slice A r.1.length c) r.1 ∧ Grow w w'

end Go.Proofs.Ytagihhainhdhfaa
