/- Contracts of changing values and cells of states, in the program and in the reference: the result lies in new memory. Conditions: the lengths are far from Go's bounds. -/
import Derived.Test.YtagihhainhdhfaaSt5
namespace Go.Proofs.Ytagihhainhdhfaa
open Go.RowKit
set_option linter.unusedVariables false

theorem OSt.setV {w : World} {lo c d g k : Nat} {B : Option Addr} {v h : List Int} (H : OSt w lo (some ⟨g, 0, none⟩) B c d ⟨v, h⟩) (x : Int) : OSt (w.setCell ⟨g, k, none⟩ (.int .i64 x)) lo (some ⟨g, 0, none⟩) B c d ⟨v.set k x, h⟩ := by
  have hv : w.ownsRow lo 3 1 (.slice (some ⟨g, 0, none⟩) v.length c) v.length (v.map (.int .i64)) := H.v
  have ap : ∀ k, (Value.slice (some ⟨g, 0, none⟩) v.length c).ownBlock = some k → (Value.slice B h.length d).ownBlock ≠ some k := H.ap
  refine ⟨?_, own_far (p := ⟨g, k, none⟩) H.h (fun j hk e => ap g rfl (by rw [hk]; exact congrArg some e.symm)) (.int .i64 x), ?_⟩
  · show World.ownsRow _ lo _ 1 (.slice _ (v.set k x).length c) (v.set k x).length ((v.set k x).map (.int .i64))
    rw [List.length_set, List.map_set]
    exact own_set hv k _
  · show ∀ j, (Value.slice (some ⟨g, 0, none⟩) (v.set k x).length c).ownBlock = some j → (Value.slice B h.length d).ownBlock ≠ some j
    rw [List.length_set]; exact ap
theorem OSt.setH {w : World} {lo c d g k : Nat} {A : Option Addr} {v h : List Int} (H : OSt w lo A (some ⟨g, 0, none⟩) c d ⟨v, h⟩) (x : Int) : OSt (w.setCell ⟨g, k, none⟩ (.int .i64 x)) lo A (some ⟨g, 0, none⟩) c d ⟨v, h.set k x⟩ := by
  have hh : w.ownsRow lo 3 1 (.slice (some ⟨g, 0, none⟩) h.length d) h.length (h.map (.int .i64)) := H.h
  have ap : ∀ k, (Value.slice A v.length c).ownBlock = some k → (Value.slice (some ⟨g, 0, none⟩) h.length d).ownBlock ≠ some k := H.ap
  refine ⟨own_far (p := ⟨g, k, none⟩) H.v (fun j hk e => ap j hk (congrArg some e)) (.int .i64 x), ?_, ?_⟩
  · show World.ownsRow _ lo _ 1 (.slice _ (h.set k x).length d) (h.set k x).length ((h.set k x).map (.int .i64))
    rw [List.length_set, List.map_set]
    exact own_set hh k _
  · show ∀ j, (Value.slice A v.length c).ownBlock = some j → (Value.slice (some ⟨g, 0, none⟩) (h.set k x).length d).ownBlock ≠ some j
    rw [List.length_set]; exact ap
theorem sval_setV (A B : Option Addr) (c d k : Nat) (v h : List Int) (x : Int) : sval A B c d ⟨v.set k x, h⟩ = .agg #[.slice A v.length c, .slice B h.length d] := by
  show Value.agg #[.slice A (v.set k x).length c, .slice B h.length d] = _
  rw [List.length_set]
theorem sval_setH (A B : Option Addr) (c d k : Nat) (v h : List Int) (x : Int) : sval A B c d ⟨v, h.set k x⟩ = .agg #[.slice A v.length c, .slice B h.length d] := by
  show Value.agg #[.slice A v.length c, .slice B (h.set k x).length d] = _
  rw [List.length_set]
/-- What a call returns: a state in new memory, and whether it went well. -/
def RSt (w : World) (r : Pl.St × Bool) (e : Ending) (w' : World) : Prop := ∃ A B c d, e = .returned (.tuple #[sval A B c d r.1, .bool r.2]) ∧ OSt w' w.heap.size A B c d r.1 ∧ Grow w w'
theorem RSt.no {w w' : World} {r : Pl.St × Bool} {e : Ending} (hr : r = (Pl.emp, false)) (he : e = .returned (.tuple #[.agg #[.slice none 0 0, .slice none 0 0], .bool false])) (hg : Grow w w') : RSt w r e w' := by
  subst hr he; exact ⟨none, none, 0, 0, rfl, OSt.emp _ _, hg⟩

/-- The stores at the end: into the copy, then into the result's box. -/
theorem end_setV {w w1 : World} {lo g c d k : Nat} {B : Option Addr} {v h : List Int} {r : Pl.St × Bool} {x : Int} (b : Nat) (hb : w.heap.size ≤ b) (hlo : b < lo) (hG : Grow w w1) (ho : OSt w1 lo (some ⟨g, 0, none⟩) B c d ⟨v, h⟩) (hr : r = (⟨v.set k x, h⟩, true)) (hgl : lo ≤ g) (o : Obj) (e : Ending) (he : e = .returned (.tuple #[.agg #[.slice (some ⟨g, 0, none⟩) v.length c, .slice B h.length d], .bool true])) (u1 u2 : Value) :
    RSt w r e ((((w1.setCell ⟨g, k, none⟩ (.int .i64 x)).setCell ⟨b, 0, none⟩ u1).setCell ⟨b, 1, none⟩ u2).alloc o) := by
  subst hr he
  have h1 := ho.setV (k := k) x
  exact ⟨_, _, _, _, by rw [sval_setV], (((h1.far hlo u1).far hlo u2).grow (Grow.alloc (Grow.refl _) o)).lo (by omega), (((hG.setCell (by show w.heap.size ≤ g; omega) _).setCell hb _).setCell hb _).alloc o⟩
theorem end_setH {w w1 : World} {lo g c d k : Nat} {A : Option Addr} {v h : List Int} {r : Pl.St × Bool} {x : Int} (b : Nat) (hb : w.heap.size ≤ b) (hlo : b < lo) (hG : Grow w w1) (ho : OSt w1 lo A (some ⟨g, 0, none⟩) c d ⟨v, h⟩) (hr : r = (⟨v, h.set k x⟩, true)) (hgl : lo ≤ g) (o : Obj) (e : Ending) (he : e = .returned (.tuple #[.agg #[.slice A v.length c, .slice (some ⟨g, 0, none⟩) h.length d], .bool true])) (u1 u2 : Value) :
    RSt w r e ((((w1.setCell ⟨g, k, none⟩ (.int .i64 x)).setCell ⟨b, 0, none⟩ u1).setCell ⟨b, 1, none⟩ u2).alloc o) := by
  subst hr he
  have h1 := ho.setH (k := k) x
  exact ⟨_, _, _, _, by rw [sval_setH], (((h1.far hlo u1).far hlo u2).grow (Grow.alloc (Grow.refl _) o)).lo (by omega), (((hG.setCell (by show w.heap.size ≤ g; omega) _).setCell hb _).setCell hb _).alloc o⟩


set_option maxHeartbeats 800000 in
theorem SetTerm_c (A B : Option Addr) (c d : Nat) (s : Pl.St) (t x : Int) (w : World) (hS : Sts w A B s) (h1 : s.v.length ≤ 4194304) (h2 : s.h.length ≤ 4194304) :
    Calls Try.prog 13 #[sval A B c d s, .int .i64 t, .int .i64 x] w (RSt w (Pl.setT s t x)) := by
  obtain ⟨v, h⟩ := s
  have y2 := Box2.new (w.alloc (.cells #[.slice A v.length c, .slice B h.length d] 25)) 25 (.slice none 0 0) (.slice none 0 0)
  simp only [World.size_alloc] at y2
  have y1 := Box2.new w 25 (.slice A v.length c) (.slice B h.length d)
  cases hs : Pl.stv ⟨v, h⟩ with
  | false =>
    have HS := Lib.hid hs
    have HX := Lib.hid (show Pl.setT ⟨v, h⟩ t x = (Pl.emp, false) by unfold Pl.setT; rw [hs]; rfl)
    clear hs
    go_enter Try.func13, Try.ntmps13
    go_wp2_with fail
    refine (StateValid_c A B c d ⟨v, h⟩ _ (hS.grow (by repeat (first | exact Grow.refl _ | assumption | refine Grow.alloc ?_ _ | refine Grow.drew ?_ | refine Grow.drewN ?_ _ | refine Grow.trans ?_ (by assumption) | refine Grow.below ?_ (by assumption) (by first | exact Nat.le_refl _ | omega)))) h1 h2).mono ?_
    rintro e w1 ⟨rfl, g1⟩
    rw [HS.out]
    obtain ⟨j0, j1, e0, e1⟩ := (y2.grow g1).facts
    go_wp2_with fail
    refine bodyPost_ret (v := .tuple #[.agg #[.slice none 0 0, .slice none 0 0], .bool false]) (by simp [results, Try.results13, go_sem, j0, j1]) rfl (RSt.no HX.out rfl ?_)
    exact ((show Grow w w1 from (by repeat (first | exact Grow.refl _ | assumption | refine Grow.alloc ?_ _ | refine Grow.drew ?_ | refine Grow.drewN ?_ _ | refine Grow.trans ?_ (by assumption) | refine Grow.below ?_ (by assumption) (by first | exact Nat.le_refl _ | omega)))).setCell (by show w.heap.size ≤ w.heap.size + 1; omega) _).setCell (by show w.heap.size ≤ w.heap.size + 1; omega) _
  | true =>
    have HS := Lib.hid hs
    cases ht : Pl.tmB t with
    | false =>
      have HT := Lib.hid ht
      have HX := Lib.hid (show Pl.setT ⟨v, h⟩ t x = (Pl.emp, false) by unfold Pl.setT; rw [hs, ht]; rfl)
      clear hs ht
      go_enter Try.func13, Try.ntmps13
      go_wp2_with fail
      refine (StateValid_c A B c d ⟨v, h⟩ _ (hS.grow (by repeat (first | exact Grow.refl _ | assumption | refine Grow.alloc ?_ _ | refine Grow.drew ?_ | refine Grow.drewN ?_ _ | refine Grow.trans ?_ (by assumption) | refine Grow.below ?_ (by assumption) (by first | exact Nat.le_refl _ | omega)))) h1 h2).mono ?_
      rintro e w1 ⟨rfl, g1⟩
      rw [HS.out]
      obtain ⟨j0, j1, e0, e1⟩ := (y2.grow g1).facts
      go_wp2_with fail
      refine (isTerm_c t _).mono ?_
      rintro e w2 ⟨rfl, rfl⟩
      rw [HT.out]
      go_wp2_with fail
      refine bodyPost_ret (v := .tuple #[.agg #[.slice none 0 0, .slice none 0 0], .bool false]) (by simp [results, Try.results13, go_sem, j0, j1]) rfl (RSt.no HX.out rfl ?_)
      exact ((show Grow w w1 from (by repeat (first | exact Grow.refl _ | assumption | refine Grow.alloc ?_ _ | refine Grow.drew ?_ | refine Grow.drewN ?_ _ | refine Grow.trans ?_ (by assumption) | refine Grow.below ?_ (by assumption) (by first | exact Nat.le_refl _ | omega)))).setCell (by show w.heap.size ≤ w.heap.size + 1; omega) _).setCell (by show w.heap.size ≤ w.heap.size + 1; omega) _
    | true =>
      have HT := Lib.hid ht
      have htr := (Pl.tmB_iff t).1 ht
      by_cases h0 : t = 0
      · have HX := Lib.hid (show Pl.setT ⟨v, h⟩ t x = (Pl.emp, false) by unfold Pl.setT; rw [h0]; simp)
        have hb : (t == 0) = true := by simp [h0]
        clear hs ht h0 htr
        go_enter Try.func13, Try.ntmps13
        go_wp2_with fail
        refine (StateValid_c A B c d ⟨v, h⟩ _ (hS.grow (by repeat (first | exact Grow.refl _ | assumption | refine Grow.alloc ?_ _ | refine Grow.drew ?_ | refine Grow.drewN ?_ _ | refine Grow.trans ?_ (by assumption) | refine Grow.below ?_ (by assumption) (by first | exact Nat.le_refl _ | omega)))) h1 h2).mono ?_
        rintro e w1 ⟨rfl, g1⟩
        rw [HS.out]
        obtain ⟨j0, j1, e0, e1⟩ := (y2.grow g1).facts
        go_wp2_with fail
        refine (isTerm_c t _).mono ?_
        rintro e w2 ⟨rfl, rfl⟩
        rw [HT.out]
        go_wp2_with fail
        refine bodyPost_ret (v := .tuple #[.agg #[.slice none 0 0, .slice none 0 0], .bool false]) (by simp [results, Try.results13, go_sem, j0, j1]) rfl (RSt.no HX.out rfl ?_)
        exact ((show Grow w w1 from (by repeat (first | exact Grow.refl _ | assumption | refine Grow.alloc ?_ _ | refine Grow.drew ?_ | refine Grow.drewN ?_ _ | refine Grow.trans ?_ (by assumption) | refine Grow.below ?_ (by assumption) (by first | exact Nat.le_refl _ | omega)))).setCell (by show w.heap.size ≤ w.heap.size + 1; omega) _).setCell (by show w.heap.size ≤ w.heap.size + 1; omega) _
      · cases hx : Pl.vlB x with
        | false =>
          have HV := Lib.hid hx
          have HX := Lib.hid (show Pl.setT ⟨v, h⟩ t x = (Pl.emp, false) by unfold Pl.setT; rw [hx]; simp)
          have hb : (t == 0) = false := by simp [h0]
          clear hs ht h0 hx htr
          go_enter Try.func13, Try.ntmps13
          go_wp2_with fail
          refine (StateValid_c A B c d ⟨v, h⟩ _ (hS.grow (by repeat (first | exact Grow.refl _ | assumption | refine Grow.alloc ?_ _ | refine Grow.drew ?_ | refine Grow.drewN ?_ _ | refine Grow.trans ?_ (by assumption) | refine Grow.below ?_ (by assumption) (by first | exact Nat.le_refl _ | omega)))) h1 h2).mono ?_
          rintro e w1 ⟨rfl, g1⟩
          rw [HS.out]
          obtain ⟨j0, j1, e0, e1⟩ := (y2.grow g1).facts
          go_wp2_with fail
          refine (isTerm_c t _).mono ?_
          rintro e w2 ⟨rfl, rfl⟩
          rw [HT.out]
          go_wp2_with fail
          refine (isValue_c x _).mono ?_
          rintro e w2 ⟨rfl, rfl⟩
          rw [HV.out]
          go_wp2_with fail
          refine bodyPost_ret (v := .tuple #[.agg #[.slice none 0 0, .slice none 0 0], .bool false]) (by simp [results, Try.results13, go_sem, j0, j1]) rfl (RSt.no HX.out rfl ?_)
          exact ((show Grow w w1 from (by repeat (first | exact Grow.refl _ | assumption | refine Grow.alloc ?_ _ | refine Grow.drew ?_ | refine Grow.drewN ?_ _ | refine Grow.trans ?_ (by assumption) | refine Grow.below ?_ (by assumption) (by first | exact Nat.le_refl _ | omega)))).setCell (by show w.heap.size ≤ w.heap.size + 1; omega) _).setCell (by show w.heap.size ≤ w.heap.size + 1; omega) _
        | true =>
          have HV := Lib.hid hx
          obtain ⟨k, rfl⟩ : ∃ k : Nat, t = (k : Int) + 1 := ⟨(t - 1).toNat, by omega⟩
          have hk : k < v.length := by have : v.length = 8 := Pl.stv_v hs; omega
          have HX := Lib.hid (show Pl.setT ⟨v, h⟩ ((k : Int) + 1) x = (⟨v.set k x, h⟩, true) by rw [Pl.setT_mk hs (by omega) hx, show ((k : Int) + 1 - 1).toNat = k from by omega])
          have hb : (((k : Int) + 1) == 0) = false := by simp; omega
          clear hs ht h0 hx htr
          go_enter Try.func13, Try.ntmps13
          go_wp2_with fail
          refine (StateValid_c A B c d ⟨v, h⟩ _ (hS.grow (by repeat (first | exact Grow.refl _ | assumption | refine Grow.alloc ?_ _ | refine Grow.drew ?_ | refine Grow.drewN ?_ _ | refine Grow.trans ?_ (by assumption) | refine Grow.below ?_ (by assumption) (by first | exact Nat.le_refl _ | omega)))) h1 h2).mono ?_
          rintro e w1 ⟨rfl, g1⟩
          rw [HS.out]
          have y3 := y2.grow g1
          obtain ⟨k0, k1, _, _⟩ := (y1.grow (show Grow _ w1 from (by repeat (first | exact Grow.refl _ | assumption | refine Grow.alloc ?_ _ | refine Grow.drew ?_ | refine Grow.drewN ?_ _ | refine Grow.trans ?_ (by assumption) | refine Grow.below ?_ (by assumption) (by first | exact Nat.le_refl _ | omega))))).facts
          go_wp2_with fail
          refine (isTerm_c _ _).mono ?_
          rintro e w2 ⟨rfl, rfl⟩
          rw [HT.out]
          go_wp2_with fail
          refine (isValue_c x _).mono ?_
          rintro e w2 ⟨rfl, rfl⟩
          rw [HV.out]
          have G1 : Grow w w1 := (by repeat (first | exact Grow.refl _ | assumption | refine Grow.alloc ?_ _ | refine Grow.drew ?_ | refine Grow.drewN ?_ _ | refine Grow.trans ?_ (by assumption) | refine Grow.below ?_ (by assumption) (by first | exact Nat.le_refl _ | omega)))
          have hlt := y3.lt
          clear g1 y1 y2 hb
          go_wp2_with fail
          refine (copyState_c A B c d ⟨v, h⟩ _ (hS.grow G1) h1 h2).mono ?_
          rintro e w2 ⟨A2, B2, c2, d2, rfl, o2, g2⟩
          obtain ⟨g, rfl, hgl, hgs⟩ := own_some o2.v (by show 0 < v.length; omega)
          obtain ⟨j0, j1, e0, e1⟩ := (y3.grow g2).facts
          obtain ⟨u0, c0⟩ : ∃ u, w2.cell? ⟨g, k, none⟩ = some u := ⟨_, own_cellAt o2.v (show (v.map (Value.int .i64))[k]? = some (.int .i64 v[k]) by simp [hk])⟩
          have f0 := World.ownsRow.frozenAt o2.v k
          have hlt2 : w.heap.size + 1 < w2.heap.size := by have := g2.le; omega
          have hne : ¬ g = w.heap.size + 1 := by omega
          have hne2 : ¬ w.heap.size + 1 = g := by omega
          have hne3 : (g == w.heap.size + 1) = false := by simp; omega
          have hne4 : (w.heap.size + 1 == g) = false := by simp; omega
          clear k0 k1
          go_wp2_with fail
          refine bodyPost_ret (v := .tuple #[.agg #[.slice (some ⟨g, 0, none⟩) v.length c2, .slice B2 h.length d2], .bool true]) (by simp [results, Try.results13, go_sem, j0, j1, hlt2]) rfl ?_
          exact end_setV (w.heap.size + 1) (by omega) (by omega) (G1.trans g2) o2 HX.out hgl _ _ rfl _ _

set_option maxHeartbeats 800000 in
theorem sSetTerm_c (A B : Option Addr) (c d : Nat) (s : Pl.St) (t x : Int) (w : World) (hS : Sts w A B s) (h1 : s.v.length ≤ 4194304) (h2 : s.h.length ≤ 4194304) :
    Calls Try.prog 14 #[sval A B c d s, .int .i64 t, .int .i64 x] w (RSt w (Pl.setT s t x)) := by
  obtain ⟨v, h⟩ := s
  have y2 := Box2.new (w.alloc (.cells #[.slice A v.length c, .slice B h.length d] 25)) 25 (.slice none 0 0) (.slice none 0 0)
  simp only [World.size_alloc] at y2
  have y1 := Box2.new w 25 (.slice A v.length c) (.slice B h.length d)
  cases hs : Pl.stv ⟨v, h⟩ with
  | false =>
    have HS := Lib.hid hs
    have HX := Lib.hid (show Pl.setT ⟨v, h⟩ t x = (Pl.emp, false) by unfold Pl.setT; rw [hs]; rfl)
    clear hs
    go_enter Try.func14, Try.ntmps14
    go_wp2_with fail
    refine (sStateValid_c A B c d ⟨v, h⟩ _ (hS.grow (by repeat (first | exact Grow.refl _ | assumption | refine Grow.alloc ?_ _ | refine Grow.drew ?_ | refine Grow.drewN ?_ _ | refine Grow.trans ?_ (by assumption) | refine Grow.below ?_ (by assumption) (by first | exact Nat.le_refl _ | omega)))) h1 h2).mono ?_
    rintro e w1 ⟨rfl, g1⟩
    rw [HS.out]
    obtain ⟨j0, j1, e0, e1⟩ := (y2.grow g1).facts
    go_wp2_with fail
    refine bodyPost_ret (v := .tuple #[.agg #[.slice none 0 0, .slice none 0 0], .bool false]) (by simp [results, Try.results14, go_sem, j0, j1]) rfl (RSt.no HX.out rfl ?_)
    exact ((show Grow w w1 from (by repeat (first | exact Grow.refl _ | assumption | refine Grow.alloc ?_ _ | refine Grow.drew ?_ | refine Grow.drewN ?_ _ | refine Grow.trans ?_ (by assumption) | refine Grow.below ?_ (by assumption) (by first | exact Nat.le_refl _ | omega)))).setCell (by show w.heap.size ≤ w.heap.size + 1; omega) _).setCell (by show w.heap.size ≤ w.heap.size + 1; omega) _
  | true =>
    have HS := Lib.hid hs
    cases ht : Pl.tmB t with
    | false =>
      have HT := Lib.hid ht
      have HX := Lib.hid (show Pl.setT ⟨v, h⟩ t x = (Pl.emp, false) by unfold Pl.setT; rw [hs, ht]; rfl)
      clear hs ht
      go_enter Try.func14, Try.ntmps14
      go_wp2_with fail
      refine (sStateValid_c A B c d ⟨v, h⟩ _ (hS.grow (by repeat (first | exact Grow.refl _ | assumption | refine Grow.alloc ?_ _ | refine Grow.drew ?_ | refine Grow.drewN ?_ _ | refine Grow.trans ?_ (by assumption) | refine Grow.below ?_ (by assumption) (by first | exact Nat.le_refl _ | omega)))) h1 h2).mono ?_
      rintro e w1 ⟨rfl, g1⟩
      rw [HS.out]
      obtain ⟨j0, j1, e0, e1⟩ := (y2.grow g1).facts
      go_wp2_with fail
      refine (l1Is_c t _).mono ?_
      rintro e w2 ⟨rfl, rfl⟩
      rw [HT.out]
      go_wp2_with fail
      refine bodyPost_ret (v := .tuple #[.agg #[.slice none 0 0, .slice none 0 0], .bool false]) (by simp [results, Try.results14, go_sem, j0, j1]) rfl (RSt.no HX.out rfl ?_)
      exact ((show Grow w w1 from (by repeat (first | exact Grow.refl _ | assumption | refine Grow.alloc ?_ _ | refine Grow.drew ?_ | refine Grow.drewN ?_ _ | refine Grow.trans ?_ (by assumption) | refine Grow.below ?_ (by assumption) (by first | exact Nat.le_refl _ | omega)))).setCell (by show w.heap.size ≤ w.heap.size + 1; omega) _).setCell (by show w.heap.size ≤ w.heap.size + 1; omega) _
    | true =>
      have HT := Lib.hid ht
      have htr := (Pl.tmB_iff t).1 ht
      by_cases h0 : t = 0
      · have HX := Lib.hid (show Pl.setT ⟨v, h⟩ t x = (Pl.emp, false) by unfold Pl.setT; rw [h0]; simp)
        have hb : (t == 0) = true := by simp [h0]
        clear hs ht h0 htr
        go_enter Try.func14, Try.ntmps14
        go_wp2_with fail
        refine (sStateValid_c A B c d ⟨v, h⟩ _ (hS.grow (by repeat (first | exact Grow.refl _ | assumption | refine Grow.alloc ?_ _ | refine Grow.drew ?_ | refine Grow.drewN ?_ _ | refine Grow.trans ?_ (by assumption) | refine Grow.below ?_ (by assumption) (by first | exact Nat.le_refl _ | omega)))) h1 h2).mono ?_
        rintro e w1 ⟨rfl, g1⟩
        rw [HS.out]
        obtain ⟨j0, j1, e0, e1⟩ := (y2.grow g1).facts
        go_wp2_with fail
        refine (l1Is_c t _).mono ?_
        rintro e w2 ⟨rfl, rfl⟩
        rw [HT.out]
        go_wp2_with fail
        refine bodyPost_ret (v := .tuple #[.agg #[.slice none 0 0, .slice none 0 0], .bool false]) (by simp [results, Try.results14, go_sem, j0, j1]) rfl (RSt.no HX.out rfl ?_)
        exact ((show Grow w w1 from (by repeat (first | exact Grow.refl _ | assumption | refine Grow.alloc ?_ _ | refine Grow.drew ?_ | refine Grow.drewN ?_ _ | refine Grow.trans ?_ (by assumption) | refine Grow.below ?_ (by assumption) (by first | exact Nat.le_refl _ | omega)))).setCell (by show w.heap.size ≤ w.heap.size + 1; omega) _).setCell (by show w.heap.size ≤ w.heap.size + 1; omega) _
      · cases hx : Pl.vlB x with
        | false =>
          have HV := Lib.hid hx
          have HX := Lib.hid (show Pl.setT ⟨v, h⟩ t x = (Pl.emp, false) by unfold Pl.setT; rw [hx]; simp)
          have hb : (t == 0) = false := by simp [h0]
          clear hs ht h0 hx htr
          go_enter Try.func14, Try.ntmps14
          go_wp2_with fail
          refine (sStateValid_c A B c d ⟨v, h⟩ _ (hS.grow (by repeat (first | exact Grow.refl _ | assumption | refine Grow.alloc ?_ _ | refine Grow.drew ?_ | refine Grow.drewN ?_ _ | refine Grow.trans ?_ (by assumption) | refine Grow.below ?_ (by assumption) (by first | exact Nat.le_refl _ | omega)))) h1 h2).mono ?_
          rintro e w1 ⟨rfl, g1⟩
          rw [HS.out]
          obtain ⟨j0, j1, e0, e1⟩ := (y2.grow g1).facts
          go_wp2_with fail
          refine (l1Is_c t _).mono ?_
          rintro e w2 ⟨rfl, rfl⟩
          rw [HT.out]
          go_wp2_with fail
          refine (l2Addr_c x _).mono ?_
          rintro e w2 ⟨rfl, rfl⟩
          rw [HV.out]
          go_wp2_with fail
          refine bodyPost_ret (v := .tuple #[.agg #[.slice none 0 0, .slice none 0 0], .bool false]) (by simp [results, Try.results14, go_sem, j0, j1]) rfl (RSt.no HX.out rfl ?_)
          exact ((show Grow w w1 from (by repeat (first | exact Grow.refl _ | assumption | refine Grow.alloc ?_ _ | refine Grow.drew ?_ | refine Grow.drewN ?_ _ | refine Grow.trans ?_ (by assumption) | refine Grow.below ?_ (by assumption) (by first | exact Nat.le_refl _ | omega)))).setCell (by show w.heap.size ≤ w.heap.size + 1; omega) _).setCell (by show w.heap.size ≤ w.heap.size + 1; omega) _
        | true =>
          have HV := Lib.hid hx
          obtain ⟨k, rfl⟩ : ∃ k : Nat, t = (k : Int) + 1 := ⟨(t - 1).toNat, by omega⟩
          have hk : k < v.length := by have : v.length = 8 := Pl.stv_v hs; omega
          have HX := Lib.hid (show Pl.setT ⟨v, h⟩ ((k : Int) + 1) x = (⟨v.set k x, h⟩, true) by rw [Pl.setT_mk hs (by omega) hx, show ((k : Int) + 1 - 1).toNat = k from by omega])
          have hb : (((k : Int) + 1) == 0) = false := by simp; omega
          clear hs ht h0 hx htr
          go_enter Try.func14, Try.ntmps14
          go_wp2_with fail
          refine (sStateValid_c A B c d ⟨v, h⟩ _ (hS.grow (by repeat (first | exact Grow.refl _ | assumption | refine Grow.alloc ?_ _ | refine Grow.drew ?_ | refine Grow.drewN ?_ _ | refine Grow.trans ?_ (by assumption) | refine Grow.below ?_ (by assumption) (by first | exact Nat.le_refl _ | omega)))) h1 h2).mono ?_
          rintro e w1 ⟨rfl, g1⟩
          rw [HS.out]
          have y3 := y2.grow g1
          obtain ⟨k0, k1, _, _⟩ := (y1.grow (show Grow _ w1 from (by repeat (first | exact Grow.refl _ | assumption | refine Grow.alloc ?_ _ | refine Grow.drew ?_ | refine Grow.drewN ?_ _ | refine Grow.trans ?_ (by assumption) | refine Grow.below ?_ (by assumption) (by first | exact Nat.le_refl _ | omega))))).facts
          go_wp2_with fail
          refine (l1Is_c _ _).mono ?_
          rintro e w2 ⟨rfl, rfl⟩
          rw [HT.out]
          go_wp2_with fail
          refine (l2Addr_c x _).mono ?_
          rintro e w2 ⟨rfl, rfl⟩
          rw [HV.out]
          have G1 : Grow w w1 := (by repeat (first | exact Grow.refl _ | assumption | refine Grow.alloc ?_ _ | refine Grow.drew ?_ | refine Grow.drewN ?_ _ | refine Grow.trans ?_ (by assumption) | refine Grow.below ?_ (by assumption) (by first | exact Nat.le_refl _ | omega)))
          have hlt := y3.lt
          clear g1 y1 y2 hb
          go_wp2_with fail
          refine (l2Copy_c A B c d ⟨v, h⟩ _ (hS.grow G1) h1 h2).mono ?_
          rintro e w2 ⟨A2, B2, c2, d2, rfl, o2, g2⟩
          obtain ⟨g, rfl, hgl, hgs⟩ := own_some o2.v (by show 0 < v.length; omega)
          obtain ⟨j0, j1, e0, e1⟩ := (y3.grow g2).facts
          obtain ⟨u0, c0⟩ : ∃ u, w2.cell? ⟨g, k, none⟩ = some u := ⟨_, own_cellAt o2.v (show (v.map (Value.int .i64))[k]? = some (.int .i64 v[k]) by simp [hk])⟩
          have f0 := World.ownsRow.frozenAt o2.v k
          have hlt2 : w.heap.size + 1 < w2.heap.size := by have := g2.le; omega
          have hne : ¬ g = w.heap.size + 1 := by omega
          have hne2 : ¬ w.heap.size + 1 = g := by omega
          have hne3 : (g == w.heap.size + 1) = false := by simp; omega
          have hne4 : (w.heap.size + 1 == g) = false := by simp; omega
          clear k0 k1
          go_wp2_with fail
          refine bodyPost_ret (v := .tuple #[.agg #[.slice (some ⟨g, 0, none⟩) v.length c2, .slice B2 h.length d2], .bool true]) (by simp [results, Try.results14, go_sem, j0, j1, hlt2]) rfl ?_
          exact end_setV (w.heap.size + 1) (by omega) (by omega) (G1.trans g2) o2 HX.out hgl _ _ rfl _ _






set_option maxHeartbeats 800000 in
theorem WriteCell_c (A B : Option Addr) (c d : Nat) (s : Pl.St) (a x : Int) (w : World) (hS : Sts w A B s) (h1 : s.v.length ≤ 4194304) (h2 : s.h.length ≤ 4194304) :
    Calls Try.prog 20 #[sval A B c d s, .int .i64 a, .int .i64 x] w (RSt w (Pl.writeC s a x)) := by
  obtain ⟨v, h⟩ := s
  have y2 := Box2.new (w.alloc (.cells #[.slice A v.length c, .slice B h.length d] 25)) 25 (.slice none 0 0) (.slice none 0 0)
  simp only [World.size_alloc] at y2
  have y1 := Box2.new w 25 (.slice A v.length c) (.slice B h.length d)
  cases hs : Pl.stv ⟨v, h⟩ with
  | false =>
    have HS := Lib.hid hs
    have HX := Lib.hid (show Pl.writeC ⟨v, h⟩ a x = (Pl.emp, false) by unfold Pl.writeC; rw [hs]; rfl)
    clear hs
    go_enter Try.func20, Try.ntmps20
    go_wp2_with fail
    refine (StateValid_c A B c d ⟨v, h⟩ _ (hS.grow (by repeat (first | exact Grow.refl _ | assumption | refine Grow.alloc ?_ _ | refine Grow.drew ?_ | refine Grow.drewN ?_ _ | refine Grow.trans ?_ (by assumption) | refine Grow.below ?_ (by assumption) (by first | exact Nat.le_refl _ | omega)))) h1 h2).mono ?_
    rintro e w1 ⟨rfl, g1⟩
    rw [HS.out]
    obtain ⟨j0, j1, e0, e1⟩ := (y2.grow g1).facts
    go_wp2_with fail
    refine bodyPost_ret (v := .tuple #[.agg #[.slice none 0 0, .slice none 0 0], .bool false]) (by simp [results, Try.results20, go_sem, j0, j1]) rfl (RSt.no HX.out rfl ?_)
    exact ((show Grow w w1 from (by repeat (first | exact Grow.refl _ | assumption | refine Grow.alloc ?_ _ | refine Grow.drew ?_ | refine Grow.drewN ?_ _ | refine Grow.trans ?_ (by assumption) | refine Grow.below ?_ (by assumption) (by first | exact Nat.le_refl _ | omega)))).setCell (by show w.heap.size ≤ w.heap.size + 1; omega) _).setCell (by show w.heap.size ≤ w.heap.size + 1; omega) _
  | true =>
    have HS := Lib.hid hs
    have h8 : h.length = 8 := Pl.stv_h hs
    have hh8 := Lib.hid h8
    cases ha : Pl.hasB h a with
    | false =>
      have HA := Lib.hid ha
      have HX := Lib.hid (show Pl.writeC ⟨v, h⟩ a x = (Pl.emp, false) by unfold Pl.writeC; rw [show Pl.hasB (Pl.St.h ⟨v, h⟩) a = false from ha]; simp)
      clear hs ha h8
      go_enter Try.func20, Try.ntmps20
      go_wp2_with fail
      refine (StateValid_c A B c d ⟨v, h⟩ _ (hS.grow (by repeat (first | exact Grow.refl _ | assumption | refine Grow.alloc ?_ _ | refine Grow.drew ?_ | refine Grow.drewN ?_ _ | refine Grow.trans ?_ (by assumption) | refine Grow.below ?_ (by assumption) (by first | exact Nat.le_refl _ | omega)))) h1 h2).mono ?_
      rintro e w1 ⟨rfl, g1⟩
      rw [HS.out]
      have y3 := y2.grow g1
      obtain ⟨k0, k1, _, _⟩ := (y1.grow (show Grow _ w1 from (by repeat (first | exact Grow.refl _ | assumption | refine Grow.alloc ?_ _ | refine Grow.drew ?_ | refine Grow.drewN ?_ _ | refine Grow.trans ?_ (by assumption) | refine Grow.below ?_ (by assumption) (by first | exact Nat.le_refl _ | omega))))).facts
      go_wp2_with fail
      refine (allocated_c A B v.length c d h a _ (hS.h.grow (by repeat (first | exact Grow.refl _ | assumption | refine Grow.alloc ?_ _ | refine Grow.drew ?_ | refine Grow.drewN ?_ _ | refine Grow.trans ?_ (by assumption) | refine Grow.below ?_ (by assumption) (by first | exact Nat.le_refl _ | omega)))) hh8.out).mono ?_
      rintro e w2 ⟨rfl, g2⟩
      rw [HA.out]
      obtain ⟨j0, j1, e0, e1⟩ := (y3.grow g2).facts
      go_wp2_with fail
      refine bodyPost_ret (v := .tuple #[.agg #[.slice none 0 0, .slice none 0 0], .bool false]) (by simp [results, Try.results20, go_sem, j0, j1]) rfl (RSt.no HX.out rfl ?_)
      exact ((show Grow w w2 from (by repeat (first | exact Grow.refl _ | assumption | refine Grow.alloc ?_ _ | refine Grow.drew ?_ | refine Grow.drewN ?_ _ | refine Grow.trans ?_ (by assumption) | refine Grow.below ?_ (by assumption) (by first | exact Nat.le_refl _ | omega)))).setCell (by show w.heap.size ≤ w.heap.size + 1; omega) _).setCell (by show w.heap.size ≤ w.heap.size + 1; omega) _
    | true =>
      have HA := Lib.hid ha
      have har := Pl.has_ad ha
      cases hx : Pl.vlB x with
      | false =>
        have HV := Lib.hid hx
        have HX := Lib.hid (show Pl.writeC ⟨v, h⟩ a x = (Pl.emp, false) by unfold Pl.writeC; rw [hx]; simp)
        clear hs ha hx h8 har
        go_enter Try.func20, Try.ntmps20
        go_wp2_with fail
        refine (StateValid_c A B c d ⟨v, h⟩ _ (hS.grow (by repeat (first | exact Grow.refl _ | assumption | refine Grow.alloc ?_ _ | refine Grow.drew ?_ | refine Grow.drewN ?_ _ | refine Grow.trans ?_ (by assumption) | refine Grow.below ?_ (by assumption) (by first | exact Nat.le_refl _ | omega)))) h1 h2).mono ?_
        rintro e w1 ⟨rfl, g1⟩
        rw [HS.out]
        have y3 := y2.grow g1
        have y4 := (y1.grow (show Grow _ w1 from (by repeat (first | exact Grow.refl _ | assumption | refine Grow.alloc ?_ _ | refine Grow.drew ?_ | refine Grow.drewN ?_ _ | refine Grow.trans ?_ (by assumption) | refine Grow.below ?_ (by assumption) (by first | exact Nat.le_refl _ | omega)))))
        obtain ⟨k0, k1, _, _⟩ := y4.facts
        go_wp2_with fail
        refine (allocated_c A B v.length c d h _ _ (hS.h.grow (by repeat (first | exact Grow.refl _ | assumption | refine Grow.alloc ?_ _ | refine Grow.drew ?_ | refine Grow.drewN ?_ _ | refine Grow.trans ?_ (by assumption) | refine Grow.below ?_ (by assumption) (by first | exact Nat.le_refl _ | omega)))) hh8.out).mono ?_
        rintro e w2 ⟨rfl, g2⟩
        rw [HA.out]
        obtain ⟨j0, j1, e0, e1⟩ := (y3.grow g2).facts
        go_wp2_with fail
        refine (isValue_c x _).mono ?_
        rintro e w4 ⟨rfl, rfl⟩
        rw [HV.out]
        go_wp2_with fail
        refine bodyPost_ret (v := .tuple #[.agg #[.slice none 0 0, .slice none 0 0], .bool false]) (by simp [results, Try.results20, go_sem, j0, j1]) rfl (RSt.no HX.out rfl ?_)
        exact ((show Grow w w2 from (by repeat (first | exact Grow.refl _ | assumption | refine Grow.alloc ?_ _ | refine Grow.drew ?_ | refine Grow.drewN ?_ _ | refine Grow.trans ?_ (by assumption) | refine Grow.below ?_ (by assumption) (by first | exact Nat.le_refl _ | omega)))).setCell (by show w.heap.size ≤ w.heap.size + 1; omega) _).setCell (by show w.heap.size ≤ w.heap.size + 1; omega) _
      | true =>
        have HV := Lib.hid hx
        obtain ⟨k, rfl⟩ : ∃ k : Nat, a = (k : Int) + 1 := ⟨(a - 1).toNat, by omega⟩
        have hk : k < h.length := by omega
        have HX := Lib.hid (show Pl.writeC ⟨v, h⟩ ((k : Int) + 1) x = (⟨v, h.set k x⟩, true) by rw [Pl.writeC_mk hs ha hx, show ((k : Int) + 1 - 1).toNat = k from by omega])
        clear hs ha hx h8
        go_enter Try.func20, Try.ntmps20
        go_wp2_with fail
        refine (StateValid_c A B c d ⟨v, h⟩ _ (hS.grow (by repeat (first | exact Grow.refl _ | assumption | refine Grow.alloc ?_ _ | refine Grow.drew ?_ | refine Grow.drewN ?_ _ | refine Grow.trans ?_ (by assumption) | refine Grow.below ?_ (by assumption) (by first | exact Nat.le_refl _ | omega)))) h1 h2).mono ?_
        rintro e w1 ⟨rfl, g1⟩
        rw [HS.out]
        have y3 := y2.grow g1
        have y4 := (y1.grow (show Grow _ w1 from (by repeat (first | exact Grow.refl _ | assumption | refine Grow.alloc ?_ _ | refine Grow.drew ?_ | refine Grow.drewN ?_ _ | refine Grow.trans ?_ (by assumption) | refine Grow.below ?_ (by assumption) (by first | exact Nat.le_refl _ | omega)))))
        obtain ⟨k0, k1, _, _⟩ := y4.facts
        go_wp2_with fail
        refine (allocated_c A B v.length c d h _ _ (hS.h.grow (by repeat (first | exact Grow.refl _ | assumption | refine Grow.alloc ?_ _ | refine Grow.drew ?_ | refine Grow.drewN ?_ _ | refine Grow.trans ?_ (by assumption) | refine Grow.below ?_ (by assumption) (by first | exact Nat.le_refl _ | omega)))) hh8.out).mono ?_
        rintro e w2 ⟨rfl, g2⟩
        rw [HA.out]
        go_wp2_with fail
        refine (isValue_c x _).mono ?_
        rintro e w4 ⟨rfl, rfl⟩
        rw [HV.out]
        have G2 : Grow w w2 := (by repeat (first | exact Grow.refl _ | assumption | refine Grow.alloc ?_ _ | refine Grow.drew ?_ | refine Grow.drewN ?_ _ | refine Grow.trans ?_ (by assumption) | refine Grow.below ?_ (by assumption) (by first | exact Nat.le_refl _ | omega)))
        have y5 := y3.grow g2
        obtain ⟨k0, k1, _, _⟩ := (y4.grow g2).facts
        have hlt := y5.lt
        clear g1 g2 y1 y2 y3 y4
        go_wp2_with fail
        refine (copyState_c A B c d ⟨v, h⟩ _ (hS.grow G2) h1 h2).mono ?_
        rintro e w3 ⟨A2, B2, c2, d2, rfl, o2, g3⟩
        obtain ⟨g, rfl, hgl, hgs⟩ := own_some o2.h (by show 0 < h.length; omega)
        obtain ⟨j0, j1, e0, e1⟩ := (y5.grow g3).facts
        obtain ⟨u0, c0⟩ : ∃ u, w3.cell? ⟨g, k, none⟩ = some u := ⟨_, own_cellAt o2.h (show (h.map (Value.int .i64))[k]? = some (.int .i64 h[k]) by simp [hk])⟩
        have f0 := World.ownsRow.frozenAt o2.h k
        have hlt2 : w.heap.size + 1 < w3.heap.size := by have := g3.le; omega
        have hne : ¬ g = w.heap.size + 1 := by omega
        have hne2 : ¬ w.heap.size + 1 = g := by omega
        have hne3 : (g == w.heap.size + 1) = false := by simp; omega
        have hne4 : (w.heap.size + 1 == g) = false := by simp; omega
        clear k0 k1
        go_wp2_with fail
        refine bodyPost_ret (v := .tuple #[.agg #[.slice A2 v.length c2, .slice (some ⟨g, 0, none⟩) h.length d2], .bool true]) (by simp [results, Try.results20, go_sem, j0, j1, hlt2]) rfl ?_
        exact end_setH (w.heap.size + 1) (by omega) (by omega) (G2.trans g3) o2 HX.out hgl _ _ rfl _ _

set_option maxHeartbeats 800000 in
theorem sWriteCell_c (A B : Option Addr) (c d : Nat) (s : Pl.St) (a x : Int) (w : World) (hS : Sts w A B s) (h1 : s.v.length ≤ 4194304) (h2 : s.h.length ≤ 4194304) :
    Calls Try.prog 30 #[sval A B c d s, .int .i64 a, .int .i64 x] w (RSt w (Pl.writeC s a x)) := by
  obtain ⟨v, h⟩ := s
  have y2 := Box2.new (w.alloc (.cells #[.slice A v.length c, .slice B h.length d] 25)) 25 (.slice none 0 0) (.slice none 0 0)
  simp only [World.size_alloc] at y2
  have y1 := Box2.new w 25 (.slice A v.length c) (.slice B h.length d)
  cases hs : Pl.stv ⟨v, h⟩ with
  | false =>
    have HS := Lib.hid hs
    have HX := Lib.hid (show Pl.writeC ⟨v, h⟩ a x = (Pl.emp, false) by unfold Pl.writeC; rw [hs]; rfl)
    clear hs
    go_enter Try.func30, Try.ntmps30
    go_wp2_with fail
    refine (sStateValid_c A B c d ⟨v, h⟩ _ (hS.grow (by repeat (first | exact Grow.refl _ | assumption | refine Grow.alloc ?_ _ | refine Grow.drew ?_ | refine Grow.drewN ?_ _ | refine Grow.trans ?_ (by assumption) | refine Grow.below ?_ (by assumption) (by first | exact Nat.le_refl _ | omega)))) h1 h2).mono ?_
    rintro e w1 ⟨rfl, g1⟩
    rw [HS.out]
    obtain ⟨j0, j1, e0, e1⟩ := (y2.grow g1).facts
    go_wp2_with fail
    refine bodyPost_ret (v := .tuple #[.agg #[.slice none 0 0, .slice none 0 0], .bool false]) (by simp [results, Try.results30, go_sem, j0, j1]) rfl (RSt.no HX.out rfl ?_)
    exact ((show Grow w w1 from (by repeat (first | exact Grow.refl _ | assumption | refine Grow.alloc ?_ _ | refine Grow.drew ?_ | refine Grow.drewN ?_ _ | refine Grow.trans ?_ (by assumption) | refine Grow.below ?_ (by assumption) (by first | exact Nat.le_refl _ | omega)))).setCell (by show w.heap.size ≤ w.heap.size + 1; omega) _).setCell (by show w.heap.size ≤ w.heap.size + 1; omega) _
  | true =>
    have HS := Lib.hid hs
    have h8 : h.length = 8 := Pl.stv_h hs
    have hh8 := Lib.hid h8
    cases ha : Pl.hasB h a with
    | false =>
      have HA := Lib.hid ha
      have HX := Lib.hid (show Pl.writeC ⟨v, h⟩ a x = (Pl.emp, false) by unfold Pl.writeC; rw [show Pl.hasB (Pl.St.h ⟨v, h⟩) a = false from ha]; simp)
      clear hs ha h8
      go_enter Try.func30, Try.ntmps30
      go_wp2_with fail
      refine (sStateValid_c A B c d ⟨v, h⟩ _ (hS.grow (by repeat (first | exact Grow.refl _ | assumption | refine Grow.alloc ?_ _ | refine Grow.drew ?_ | refine Grow.drewN ?_ _ | refine Grow.trans ?_ (by assumption) | refine Grow.below ?_ (by assumption) (by first | exact Nat.le_refl _ | omega)))) h1 h2).mono ?_
      rintro e w1 ⟨rfl, g1⟩
      rw [HS.out]
      have y3 := y2.grow g1
      obtain ⟨k0, k1, _, _⟩ := (y1.grow (show Grow _ w1 from (by repeat (first | exact Grow.refl _ | assumption | refine Grow.alloc ?_ _ | refine Grow.drew ?_ | refine Grow.drewN ?_ _ | refine Grow.trans ?_ (by assumption) | refine Grow.below ?_ (by assumption) (by first | exact Nat.le_refl _ | omega))))).facts
      go_wp2_with fail
      refine (l2Has_c A B v.length c d h a _ (hS.h.grow (by repeat (first | exact Grow.refl _ | assumption | refine Grow.alloc ?_ _ | refine Grow.drew ?_ | refine Grow.drewN ?_ _ | refine Grow.trans ?_ (by assumption) | refine Grow.below ?_ (by assumption) (by first | exact Nat.le_refl _ | omega)))) hh8.out).mono ?_
      rintro e w2 ⟨rfl, g2⟩
      rw [HA.out]
      obtain ⟨j0, j1, e0, e1⟩ := (y3.grow g2).facts
      go_wp2_with fail
      refine bodyPost_ret (v := .tuple #[.agg #[.slice none 0 0, .slice none 0 0], .bool false]) (by simp [results, Try.results30, go_sem, j0, j1]) rfl (RSt.no HX.out rfl ?_)
      exact ((show Grow w w2 from (by repeat (first | exact Grow.refl _ | assumption | refine Grow.alloc ?_ _ | refine Grow.drew ?_ | refine Grow.drewN ?_ _ | refine Grow.trans ?_ (by assumption) | refine Grow.below ?_ (by assumption) (by first | exact Nat.le_refl _ | omega)))).setCell (by show w.heap.size ≤ w.heap.size + 1; omega) _).setCell (by show w.heap.size ≤ w.heap.size + 1; omega) _
    | true =>
      have HA := Lib.hid ha
      have har := Pl.has_ad ha
      cases hx : Pl.vlB x with
      | false =>
        have HV := Lib.hid hx
        have HX := Lib.hid (show Pl.writeC ⟨v, h⟩ a x = (Pl.emp, false) by unfold Pl.writeC; rw [hx]; simp)
        clear hs ha hx h8 har
        go_enter Try.func30, Try.ntmps30
        go_wp2_with fail
        refine (sStateValid_c A B c d ⟨v, h⟩ _ (hS.grow (by repeat (first | exact Grow.refl _ | assumption | refine Grow.alloc ?_ _ | refine Grow.drew ?_ | refine Grow.drewN ?_ _ | refine Grow.trans ?_ (by assumption) | refine Grow.below ?_ (by assumption) (by first | exact Nat.le_refl _ | omega)))) h1 h2).mono ?_
        rintro e w1 ⟨rfl, g1⟩
        rw [HS.out]
        have y3 := y2.grow g1
        have y4 := (y1.grow (show Grow _ w1 from (by repeat (first | exact Grow.refl _ | assumption | refine Grow.alloc ?_ _ | refine Grow.drew ?_ | refine Grow.drewN ?_ _ | refine Grow.trans ?_ (by assumption) | refine Grow.below ?_ (by assumption) (by first | exact Nat.le_refl _ | omega)))))
        obtain ⟨k0, k1, _, _⟩ := y4.facts
        go_wp2_with fail
        refine (l2Has_c A B v.length c d h _ _ (hS.h.grow (by repeat (first | exact Grow.refl _ | assumption | refine Grow.alloc ?_ _ | refine Grow.drew ?_ | refine Grow.drewN ?_ _ | refine Grow.trans ?_ (by assumption) | refine Grow.below ?_ (by assumption) (by first | exact Nat.le_refl _ | omega)))) hh8.out).mono ?_
        rintro e w2 ⟨rfl, g2⟩
        rw [HA.out]
        obtain ⟨j0, j1, e0, e1⟩ := (y3.grow g2).facts
        go_wp2_with fail
        refine (l2Addr_c x _).mono ?_
        rintro e w4 ⟨rfl, rfl⟩
        rw [HV.out]
        go_wp2_with fail
        refine bodyPost_ret (v := .tuple #[.agg #[.slice none 0 0, .slice none 0 0], .bool false]) (by simp [results, Try.results30, go_sem, j0, j1]) rfl (RSt.no HX.out rfl ?_)
        exact ((show Grow w w2 from (by repeat (first | exact Grow.refl _ | assumption | refine Grow.alloc ?_ _ | refine Grow.drew ?_ | refine Grow.drewN ?_ _ | refine Grow.trans ?_ (by assumption) | refine Grow.below ?_ (by assumption) (by first | exact Nat.le_refl _ | omega)))).setCell (by show w.heap.size ≤ w.heap.size + 1; omega) _).setCell (by show w.heap.size ≤ w.heap.size + 1; omega) _
      | true =>
        have HV := Lib.hid hx
        obtain ⟨k, rfl⟩ : ∃ k : Nat, a = (k : Int) + 1 := ⟨(a - 1).toNat, by omega⟩
        have hk : k < h.length := by omega
        have HX := Lib.hid (show Pl.writeC ⟨v, h⟩ ((k : Int) + 1) x = (⟨v, h.set k x⟩, true) by rw [Pl.writeC_mk hs ha hx, show ((k : Int) + 1 - 1).toNat = k from by omega])
        clear hs ha hx h8
        go_enter Try.func30, Try.ntmps30
        go_wp2_with fail
        refine (sStateValid_c A B c d ⟨v, h⟩ _ (hS.grow (by repeat (first | exact Grow.refl _ | assumption | refine Grow.alloc ?_ _ | refine Grow.drew ?_ | refine Grow.drewN ?_ _ | refine Grow.trans ?_ (by assumption) | refine Grow.below ?_ (by assumption) (by first | exact Nat.le_refl _ | omega)))) h1 h2).mono ?_
        rintro e w1 ⟨rfl, g1⟩
        rw [HS.out]
        have y3 := y2.grow g1
        have y4 := (y1.grow (show Grow _ w1 from (by repeat (first | exact Grow.refl _ | assumption | refine Grow.alloc ?_ _ | refine Grow.drew ?_ | refine Grow.drewN ?_ _ | refine Grow.trans ?_ (by assumption) | refine Grow.below ?_ (by assumption) (by first | exact Nat.le_refl _ | omega)))))
        obtain ⟨k0, k1, _, _⟩ := y4.facts
        go_wp2_with fail
        refine (l2Has_c A B v.length c d h _ _ (hS.h.grow (by repeat (first | exact Grow.refl _ | assumption | refine Grow.alloc ?_ _ | refine Grow.drew ?_ | refine Grow.drewN ?_ _ | refine Grow.trans ?_ (by assumption) | refine Grow.below ?_ (by assumption) (by first | exact Nat.le_refl _ | omega)))) hh8.out).mono ?_
        rintro e w2 ⟨rfl, g2⟩
        rw [HA.out]
        go_wp2_with fail
        refine (l2Addr_c x _).mono ?_
        rintro e w4 ⟨rfl, rfl⟩
        rw [HV.out]
        have G2 : Grow w w2 := (by repeat (first | exact Grow.refl _ | assumption | refine Grow.alloc ?_ _ | refine Grow.drew ?_ | refine Grow.drewN ?_ _ | refine Grow.trans ?_ (by assumption) | refine Grow.below ?_ (by assumption) (by first | exact Nat.le_refl _ | omega)))
        have y5 := y3.grow g2
        obtain ⟨k0, k1, _, _⟩ := (y4.grow g2).facts
        have hlt := y5.lt
        clear g1 g2 y1 y2 y3 y4
        go_wp2_with fail
        refine (l2Copy_c A B c d ⟨v, h⟩ _ (hS.grow G2) h1 h2).mono ?_
        rintro e w3 ⟨A2, B2, c2, d2, rfl, o2, g3⟩
        obtain ⟨g, rfl, hgl, hgs⟩ := own_some o2.h (by show 0 < h.length; omega)
        obtain ⟨j0, j1, e0, e1⟩ := (y5.grow g3).facts
        obtain ⟨u0, c0⟩ : ∃ u, w3.cell? ⟨g, k, none⟩ = some u := ⟨_, own_cellAt o2.h (show (h.map (Value.int .i64))[k]? = some (.int .i64 h[k]) by simp [hk])⟩
        have f0 := World.ownsRow.frozenAt o2.h k
        have hlt2 : w.heap.size + 1 < w3.heap.size := by have := g3.le; omega
        have hne : ¬ g = w.heap.size + 1 := by omega
        have hne2 : ¬ w.heap.size + 1 = g := by omega
        have hne3 : (g == w.heap.size + 1) = false := by simp; omega
        have hne4 : (w.heap.size + 1 == g) = false := by simp; omega
        clear k0 k1
        go_wp2_with fail
        refine bodyPost_ret (v := .tuple #[.agg #[.slice A2 v.length c2, .slice (some ⟨g, 0, none⟩) h.length d2], .bool true]) (by simp [results, Try.results30, go_sem, j0, j1, hlt2]) rfl ?_
        exact end_setH (w.heap.size + 1) (by omega) (by omega) (G2.trans g3) o2 HX.out hgl _ _ rfl _ _

set_option maxHeartbeats 800000 in
theorem FreeCell_c (A B : Option Addr) (c d : Nat) (s : Pl.St) (a : Int) (w : World) (hS : Sts w A B s) (h1 : s.v.length ≤ 4194304) (h2 : s.h.length ≤ 4194304) :
    Calls Try.prog 36 #[sval A B c d s, .int .i64 a] w (RSt w (Pl.freeC s a)) := by
  obtain ⟨v, h⟩ := s
  have y2 := Box2.new (w.alloc (.cells #[.slice A v.length c, .slice B h.length d] 25)) 25 (.slice none 0 0) (.slice none 0 0)
  simp only [World.size_alloc] at y2
  have y1 := Box2.new w 25 (.slice A v.length c) (.slice B h.length d)
  cases hs : Pl.stv ⟨v, h⟩ with
  | false =>
    have HS := Lib.hid hs
    have HX := Lib.hid (show Pl.freeC ⟨v, h⟩ a = (Pl.emp, false) by unfold Pl.freeC; rw [hs]; rfl)
    clear hs
    go_enter Try.func36, Try.ntmps36
    go_wp2_with fail
    refine (StateValid_c A B c d ⟨v, h⟩ _ (hS.grow (by repeat (first | exact Grow.refl _ | assumption | refine Grow.alloc ?_ _ | refine Grow.drew ?_ | refine Grow.drewN ?_ _ | refine Grow.trans ?_ (by assumption) | refine Grow.below ?_ (by assumption) (by first | exact Nat.le_refl _ | omega)))) h1 h2).mono ?_
    rintro e w1 ⟨rfl, g1⟩
    rw [HS.out]
    obtain ⟨j0, j1, e0, e1⟩ := (y2.grow g1).facts
    go_wp2_with fail
    refine bodyPost_ret (v := .tuple #[.agg #[.slice none 0 0, .slice none 0 0], .bool false]) (by simp [results, Try.results36, go_sem, j0, j1]) rfl (RSt.no HX.out rfl ?_)
    exact ((show Grow w w1 from (by repeat (first | exact Grow.refl _ | assumption | refine Grow.alloc ?_ _ | refine Grow.drew ?_ | refine Grow.drewN ?_ _ | refine Grow.trans ?_ (by assumption) | refine Grow.below ?_ (by assumption) (by first | exact Nat.le_refl _ | omega)))).setCell (by show w.heap.size ≤ w.heap.size + 1; omega) _).setCell (by show w.heap.size ≤ w.heap.size + 1; omega) _
  | true =>
    have HS := Lib.hid hs
    have h8 : h.length = 8 := Pl.stv_h hs
    have hh8 := Lib.hid h8
    cases ha : Pl.hasB h a with
    | false =>
      have HA := Lib.hid ha
      have HX := Lib.hid (show Pl.freeC ⟨v, h⟩ a = (Pl.emp, false) by unfold Pl.freeC; rw [show Pl.hasB (Pl.St.h ⟨v, h⟩) a = false from ha]; simp)
      clear hs ha h8
      go_enter Try.func36, Try.ntmps36
      go_wp2_with fail
      refine (StateValid_c A B c d ⟨v, h⟩ _ (hS.grow (by repeat (first | exact Grow.refl _ | assumption | refine Grow.alloc ?_ _ | refine Grow.drew ?_ | refine Grow.drewN ?_ _ | refine Grow.trans ?_ (by assumption) | refine Grow.below ?_ (by assumption) (by first | exact Nat.le_refl _ | omega)))) h1 h2).mono ?_
      rintro e w1 ⟨rfl, g1⟩
      rw [HS.out]
      have y3 := y2.grow g1
      obtain ⟨k0, k1, _, _⟩ := (y1.grow (show Grow _ w1 from (by repeat (first | exact Grow.refl _ | assumption | refine Grow.alloc ?_ _ | refine Grow.drew ?_ | refine Grow.drewN ?_ _ | refine Grow.trans ?_ (by assumption) | refine Grow.below ?_ (by assumption) (by first | exact Nat.le_refl _ | omega))))).facts
      go_wp2_with fail
      refine (allocated_c A B v.length c d h a _ (hS.h.grow (by repeat (first | exact Grow.refl _ | assumption | refine Grow.alloc ?_ _ | refine Grow.drew ?_ | refine Grow.drewN ?_ _ | refine Grow.trans ?_ (by assumption) | refine Grow.below ?_ (by assumption) (by first | exact Nat.le_refl _ | omega)))) hh8.out).mono ?_
      rintro e w2 ⟨rfl, g2⟩
      rw [HA.out]
      obtain ⟨j0, j1, e0, e1⟩ := (y3.grow g2).facts
      go_wp2_with fail
      refine bodyPost_ret (v := .tuple #[.agg #[.slice none 0 0, .slice none 0 0], .bool false]) (by simp [results, Try.results36, go_sem, j0, j1]) rfl (RSt.no HX.out rfl ?_)
      exact ((show Grow w w2 from (by repeat (first | exact Grow.refl _ | assumption | refine Grow.alloc ?_ _ | refine Grow.drew ?_ | refine Grow.drewN ?_ _ | refine Grow.trans ?_ (by assumption) | refine Grow.below ?_ (by assumption) (by first | exact Nat.le_refl _ | omega)))).setCell (by show w.heap.size ≤ w.heap.size + 1; omega) _).setCell (by show w.heap.size ≤ w.heap.size + 1; omega) _
    | true =>
      have HA := Lib.hid ha
      have har := Pl.has_ad ha
      obtain ⟨k, rfl⟩ : ∃ k : Nat, a = (k : Int) + 1 := ⟨(a - 1).toNat, by omega⟩
      have hk : k < h.length := by omega
      have HX := Lib.hid (show Pl.freeC ⟨v, h⟩ ((k : Int) + 1) = (⟨v, h.set k (-1)⟩, true) by rw [Pl.freeC_mk hs ha, show ((k : Int) + 1 - 1).toNat = k from by omega])
      clear hs ha h8
      go_enter Try.func36, Try.ntmps36
      go_wp2_with fail
      refine (StateValid_c A B c d ⟨v, h⟩ _ (hS.grow (by repeat (first | exact Grow.refl _ | assumption | refine Grow.alloc ?_ _ | refine Grow.drew ?_ | refine Grow.drewN ?_ _ | refine Grow.trans ?_ (by assumption) | refine Grow.below ?_ (by assumption) (by first | exact Nat.le_refl _ | omega)))) h1 h2).mono ?_
      rintro e w1 ⟨rfl, g1⟩
      rw [HS.out]
      have y3 := y2.grow g1
      have y4 := (y1.grow (show Grow _ w1 from (by repeat (first | exact Grow.refl _ | assumption | refine Grow.alloc ?_ _ | refine Grow.drew ?_ | refine Grow.drewN ?_ _ | refine Grow.trans ?_ (by assumption) | refine Grow.below ?_ (by assumption) (by first | exact Nat.le_refl _ | omega)))))
      obtain ⟨k0, k1, _, _⟩ := y4.facts
      go_wp2_with fail
      refine (allocated_c A B v.length c d h _ _ (hS.h.grow (by repeat (first | exact Grow.refl _ | assumption | refine Grow.alloc ?_ _ | refine Grow.drew ?_ | refine Grow.drewN ?_ _ | refine Grow.trans ?_ (by assumption) | refine Grow.below ?_ (by assumption) (by first | exact Nat.le_refl _ | omega)))) hh8.out).mono ?_
      rintro e w2 ⟨rfl, g2⟩
      rw [HA.out]
      have G2 : Grow w w2 := (by repeat (first | exact Grow.refl _ | assumption | refine Grow.alloc ?_ _ | refine Grow.drew ?_ | refine Grow.drewN ?_ _ | refine Grow.trans ?_ (by assumption) | refine Grow.below ?_ (by assumption) (by first | exact Nat.le_refl _ | omega)))
      have y5 := y3.grow g2
      obtain ⟨k0, k1, _, _⟩ := (y4.grow g2).facts
      have hlt := y5.lt
      clear g1 g2 y1 y2 y3 y4
      go_wp2_with fail
      refine (copyState_c A B c d ⟨v, h⟩ _ (hS.grow G2) h1 h2).mono ?_
      rintro e w3 ⟨A2, B2, c2, d2, rfl, o2, g3⟩
      obtain ⟨g, rfl, hgl, hgs⟩ := own_some o2.h (by show 0 < h.length; omega)
      obtain ⟨j0, j1, e0, e1⟩ := (y5.grow g3).facts
      obtain ⟨u0, c0⟩ : ∃ u, w3.cell? ⟨g, k, none⟩ = some u := ⟨_, own_cellAt o2.h (show (h.map (Value.int .i64))[k]? = some (.int .i64 h[k]) by simp [hk])⟩
      have f0 := World.ownsRow.frozenAt o2.h k
      have hlt2 : w.heap.size + 1 < w3.heap.size := by have := g3.le; omega
      have hne : ¬ g = w.heap.size + 1 := by omega
      have hne2 : ¬ w.heap.size + 1 = g := by omega
      have hne3 : (g == w.heap.size + 1) = false := by simp; omega
      have hne4 : (w.heap.size + 1 == g) = false := by simp; omega
      clear k0 k1
      go_wp2_with fail
      refine bodyPost_ret (v := .tuple #[.agg #[.slice A2 v.length c2, .slice (some ⟨g, 0, none⟩) h.length d2], .bool true]) (by simp [results, Try.results36, go_sem, j0, j1, hlt2]) rfl ?_
      exact end_setH (w.heap.size + 1) (by omega) (by omega) (G2.trans g3) o2 HX.out hgl _ _ rfl _ _

set_option maxHeartbeats 800000 in
theorem sFreeCell_c (A B : Option Addr) (c d : Nat) (s : Pl.St) (a : Int) (w : World) (hS : Sts w A B s) (h1 : s.v.length ≤ 4194304) (h2 : s.h.length ≤ 4194304) :
    Calls Try.prog 37 #[sval A B c d s, .int .i64 a] w (RSt w (Pl.freeC s a)) := by
  obtain ⟨v, h⟩ := s
  have y2 := Box2.new (w.alloc (.cells #[.slice A v.length c, .slice B h.length d] 25)) 25 (.slice none 0 0) (.slice none 0 0)
  simp only [World.size_alloc] at y2
  have y1 := Box2.new w 25 (.slice A v.length c) (.slice B h.length d)
  cases hs : Pl.stv ⟨v, h⟩ with
  | false =>
    have HS := Lib.hid hs
    have HX := Lib.hid (show Pl.freeC ⟨v, h⟩ a = (Pl.emp, false) by unfold Pl.freeC; rw [hs]; rfl)
    clear hs
    go_enter Try.func37, Try.ntmps37
    go_wp2_with fail
    refine (sStateValid_c A B c d ⟨v, h⟩ _ (hS.grow (by repeat (first | exact Grow.refl _ | assumption | refine Grow.alloc ?_ _ | refine Grow.drew ?_ | refine Grow.drewN ?_ _ | refine Grow.trans ?_ (by assumption) | refine Grow.below ?_ (by assumption) (by first | exact Nat.le_refl _ | omega)))) h1 h2).mono ?_
    rintro e w1 ⟨rfl, g1⟩
    rw [HS.out]
    obtain ⟨j0, j1, e0, e1⟩ := (y2.grow g1).facts
    go_wp2_with fail
    refine bodyPost_ret (v := .tuple #[.agg #[.slice none 0 0, .slice none 0 0], .bool false]) (by simp [results, Try.results37, go_sem, j0, j1]) rfl (RSt.no HX.out rfl ?_)
    exact ((show Grow w w1 from (by repeat (first | exact Grow.refl _ | assumption | refine Grow.alloc ?_ _ | refine Grow.drew ?_ | refine Grow.drewN ?_ _ | refine Grow.trans ?_ (by assumption) | refine Grow.below ?_ (by assumption) (by first | exact Nat.le_refl _ | omega)))).setCell (by show w.heap.size ≤ w.heap.size + 1; omega) _).setCell (by show w.heap.size ≤ w.heap.size + 1; omega) _
  | true =>
    have HS := Lib.hid hs
    have h8 : h.length = 8 := Pl.stv_h hs
    have hh8 := Lib.hid h8
    cases ha : Pl.hasB h a with
    | false =>
      have HA := Lib.hid ha
      have HX := Lib.hid (show Pl.freeC ⟨v, h⟩ a = (Pl.emp, false) by unfold Pl.freeC; rw [show Pl.hasB (Pl.St.h ⟨v, h⟩) a = false from ha]; simp)
      clear hs ha h8
      go_enter Try.func37, Try.ntmps37
      go_wp2_with fail
      refine (sStateValid_c A B c d ⟨v, h⟩ _ (hS.grow (by repeat (first | exact Grow.refl _ | assumption | refine Grow.alloc ?_ _ | refine Grow.drew ?_ | refine Grow.drewN ?_ _ | refine Grow.trans ?_ (by assumption) | refine Grow.below ?_ (by assumption) (by first | exact Nat.le_refl _ | omega)))) h1 h2).mono ?_
      rintro e w1 ⟨rfl, g1⟩
      rw [HS.out]
      have y3 := y2.grow g1
      obtain ⟨k0, k1, _, _⟩ := (y1.grow (show Grow _ w1 from (by repeat (first | exact Grow.refl _ | assumption | refine Grow.alloc ?_ _ | refine Grow.drew ?_ | refine Grow.drewN ?_ _ | refine Grow.trans ?_ (by assumption) | refine Grow.below ?_ (by assumption) (by first | exact Nat.le_refl _ | omega))))).facts
      go_wp2_with fail
      refine (l2Has_c A B v.length c d h a _ (hS.h.grow (by repeat (first | exact Grow.refl _ | assumption | refine Grow.alloc ?_ _ | refine Grow.drew ?_ | refine Grow.drewN ?_ _ | refine Grow.trans ?_ (by assumption) | refine Grow.below ?_ (by assumption) (by first | exact Nat.le_refl _ | omega)))) hh8.out).mono ?_
      rintro e w2 ⟨rfl, g2⟩
      rw [HA.out]
      obtain ⟨j0, j1, e0, e1⟩ := (y3.grow g2).facts
      go_wp2_with fail
      refine bodyPost_ret (v := .tuple #[.agg #[.slice none 0 0, .slice none 0 0], .bool false]) (by simp [results, Try.results37, go_sem, j0, j1]) rfl (RSt.no HX.out rfl ?_)
      exact ((show Grow w w2 from (by repeat (first | exact Grow.refl _ | assumption | refine Grow.alloc ?_ _ | refine Grow.drew ?_ | refine Grow.drewN ?_ _ | refine Grow.trans ?_ (by assumption) | refine Grow.below ?_ (by assumption) (by first | exact Nat.le_refl _ | omega)))).setCell (by show w.heap.size ≤ w.heap.size + 1; omega) _).setCell (by show w.heap.size ≤ w.heap.size + 1; omega) _
    | true =>
      have HA := Lib.hid ha
      have har := Pl.has_ad ha
      obtain ⟨k, rfl⟩ : ∃ k : Nat, a = (k : Int) + 1 := ⟨(a - 1).toNat, by omega⟩
      have hk : k < h.length := by omega
      have HX := Lib.hid (show Pl.freeC ⟨v, h⟩ ((k : Int) + 1) = (⟨v, h.set k (-1)⟩, true) by rw [Pl.freeC_mk hs ha, show ((k : Int) + 1 - 1).toNat = k from by omega])
      clear hs ha h8
      go_enter Try.func37, Try.ntmps37
      go_wp2_with fail
      refine (sStateValid_c A B c d ⟨v, h⟩ _ (hS.grow (by repeat (first | exact Grow.refl _ | assumption | refine Grow.alloc ?_ _ | refine Grow.drew ?_ | refine Grow.drewN ?_ _ | refine Grow.trans ?_ (by assumption) | refine Grow.below ?_ (by assumption) (by first | exact Nat.le_refl _ | omega)))) h1 h2).mono ?_
      rintro e w1 ⟨rfl, g1⟩
      rw [HS.out]
      have y3 := y2.grow g1
      have y4 := (y1.grow (show Grow _ w1 from (by repeat (first | exact Grow.refl _ | assumption | refine Grow.alloc ?_ _ | refine Grow.drew ?_ | refine Grow.drewN ?_ _ | refine Grow.trans ?_ (by assumption) | refine Grow.below ?_ (by assumption) (by first | exact Nat.le_refl _ | omega)))))
      obtain ⟨k0, k1, _, _⟩ := y4.facts
      go_wp2_with fail
      refine (l2Has_c A B v.length c d h _ _ (hS.h.grow (by repeat (first | exact Grow.refl _ | assumption | refine Grow.alloc ?_ _ | refine Grow.drew ?_ | refine Grow.drewN ?_ _ | refine Grow.trans ?_ (by assumption) | refine Grow.below ?_ (by assumption) (by first | exact Nat.le_refl _ | omega)))) hh8.out).mono ?_
      rintro e w2 ⟨rfl, g2⟩
      rw [HA.out]
      have G2 : Grow w w2 := (by repeat (first | exact Grow.refl _ | assumption | refine Grow.alloc ?_ _ | refine Grow.drew ?_ | refine Grow.drewN ?_ _ | refine Grow.trans ?_ (by assumption) | refine Grow.below ?_ (by assumption) (by first | exact Nat.le_refl _ | omega)))
      have y5 := y3.grow g2
      obtain ⟨k0, k1, _, _⟩ := (y4.grow g2).facts
      have hlt := y5.lt
      clear g1 g2 y1 y2 y3 y4
      go_wp2_with fail
      refine (l2Copy_c A B c d ⟨v, h⟩ _ (hS.grow G2) h1 h2).mono ?_
      rintro e w3 ⟨A2, B2, c2, d2, rfl, o2, g3⟩
      obtain ⟨g, rfl, hgl, hgs⟩ := own_some o2.h (by show 0 < h.length; omega)
      obtain ⟨j0, j1, e0, e1⟩ := (y5.grow g3).facts
      obtain ⟨u0, c0⟩ : ∃ u, w3.cell? ⟨g, k, none⟩ = some u := ⟨_, own_cellAt o2.h (show (h.map (Value.int .i64))[k]? = some (.int .i64 h[k]) by simp [hk])⟩
      have f0 := World.ownsRow.frozenAt o2.h k
      have hlt2 : w.heap.size + 1 < w3.heap.size := by have := g3.le; omega
      have hne : ¬ g = w.heap.size + 1 := by omega
      have hne2 : ¬ w.heap.size + 1 = g := by omega
      have hne3 : (g == w.heap.size + 1) = false := by simp; omega
      have hne4 : (w.heap.size + 1 == g) = false := by simp; omega
      clear k0 k1
      go_wp2_with fail
      refine bodyPost_ret (v := .tuple #[.agg #[.slice A2 v.length c2, .slice (some ⟨g, 0, none⟩) h.length d2], .bool true]) (by simp [results, Try.results37, go_sem, j0, j1, hlt2]) rfl ?_
      exact end_setH (w.heap.size + 1) (by omega) (by omega) (G2.trans g3) o2 HX.out hgl _ _ rfl _ _

end Go.Proofs.Ytagihhainhdhfaa
