/- Contracts of the laws' own marks: what is written into a row is what is read back. Conditions: the lengths are far from Go's bounds. -/
import Derived.Test.YtifdefkkofngoaaDoorAid
namespace Go.Proofs.YtifdefkkofngoaaDoor
open Go.RowKit
set_option linter.unusedVariables false

/-- What is owned stays owned while another row is written. -/
theorem apart_kept {wa wc wd : World} {lo E sz n : Nat} {v : Value} {xs : List Value} {row : Option Nat} (h : wa.ownsRow lo E sz v n xs) (gac : Grow wa wc) (hg : wc.grownBy wd row) (hr : ∀ k, row = some k → k < lo ∨ wa.heap.size ≤ k) : wd.ownsRow lo E sz v n xs :=
  own_kept (own_grow h gac) hg fun k hk e => by
    have h1 := own_blk h k hk
    rcases hr k e with h2 | h2 <;> omega
/-- What the marks of a list of ints hold behind i rounds. -/
def half (k : Nat) (l : List Int) (i : Nat) : List Value := (markI k i ++ l.drop i).map (.int .i64)
theorem half_len (k : Nat) (l : List Int) (i : Nat) (h : i ≤ l.length) : (half k l i).length = l.length := by
  unfold half; rw [List.length_map, List.length_append, markI_len, List.length_drop]; omega
theorem half_set (k : Nat) (l : List Int) (i : Nat) (h : i < l.length) : (half k l i).set i (.int .i64 ((k + i : Nat) : Int)) = half k l (i + 1) := by
  unfold half
  rw [List.drop_eq_getElem_cons h, List.map_append, List.map_cons, set_mid _ _ _ _ _ (by simp [markI_len]), markI_snoc]
  simp
theorem half_get (k : Nat) (l : List Int) (i : Nat) (h : i < l.length) : (half k l i)[i]? = some (.int .i64 l[i]) := by
  unfold half
  rw [List.drop_eq_getElem_cons h, List.map_append, List.map_cons, List.getElem?_append_right (by simp [markI_len])]
  simp [markI_len]
theorem half_zero (k : Nat) (l : List Int) : half k l 0 = l.map (.int .i64) := by simp [half, markI]
theorem half_all (k : Nat) (l : List Int) (i : Nat) (h : ¬ i < l.length) (hi : i ≤ l.length) : half k l i = (markI k l.length).map (.int .i64) := by
  have : i = l.length := by omega
  subst this; simp [half]

theorem markIntS_c (A : Option Addr) (c lo : Nat) (l : List Int) (k : Nat) (w : World) (hA : OInts w lo (.slice A l.length c) l) (hn : l.length ≤ 4194304) (hk : k ≤ 4611686018427387904) :
    Calls Tryd.prog 52 #[.slice A l.length c, .int .i64 k] w fun e w' => e = .returned (.int .i64 ((k + l.length : Nat) : Int)) ∧ OInts w' lo (.slice A l.length c) (markI k l.length) ∧ w.grownBy w' (Value.slice A l.length c).ownBlock := by
  have hml : (markI k l.length).length = l.length := markI_len _ _
  have HA : w.ownsRow lo 3 1 (.slice A l.length c) l.length (half k l 0) := by rw [half_zero]; exact hA
  clear hA
  suffices h : Calls Tryd.prog 52 #[.slice A l.length c, .int .i64 k] w fun e w' => e = .returned (.int .i64 ((k + l.length : Nat) : Int)) ∧ w'.ownsRow lo 3 1 (.slice A l.length c) l.length ((markI k l.length).map (.int .i64)) ∧ w.grownBy w' (Value.slice A l.length c).ownBlock from
    h.mono fun e w' ⟨a, b, d⟩ => ⟨a, by show World.ownsRow _ _ _ _ _ (markI k l.length).length _; rw [hml]; exact b, d⟩
  clear hml
  go_enter Tryd.func52, Tryd.ntmps52
  go_wp2
  go_loopw [1, 5] (fun q i wr => ∃ j : Nat, j ≤ l.length ∧ i = .int .i64 j ∧ q = .int .i64 ((k + j : Nat) : Int) ∧ wr.ownsRow lo 3 1 (.slice A l.length c) l.length (half k l j) ∧ w.grownBy wr (Value.slice A l.length c).ownBlock) (fun _ i _ => l.length - (intOf i).toNat)
  case atStart => exact ⟨0, Nat.zero_le _, rfl, by simp, HA, World.grownBy.refl _ _⟩
  case round =>
    obtain ⟨j, hj, rfl, rfl, ho, hg⟩ := hrel
    by_cases hlt : j < l.length
    · obtain ⟨g, rfl, hgl, hgs⟩ := own_some ho (by omega)
      have c0 := own_cellAt ho (half_get k l j hlt)
      have f0 := World.ownsRow.frozenAt ho j
      go_wp2
      go_roundw
      case rel => exact ⟨j + 1, by omega, by go_num, by go_num, by rw [← half_set k l j hlt]; simpa using own_set ho j (.int .i64 ((k + j : Nat) : Int)), only_setCell hg j _⟩
      case measure => simp [intOf]; omega
    · have H := Lib.hid (half_all k l j hlt hj)
      have hjl : j = l.length := by omega
      subst hjl
      go_wp2
      go_ret
      exact ⟨by simp, by rw [← H.out]; exact ho, hg⟩

theorem heldIntS_c (A : Option Addr) (c k n : Nat) (w : World) (hA : Ints w A (markI k n)) (hn : n ≤ 4194304) (hk : k ≤ 4611686018427387904) :
    Calls Tryd.prog 53 #[.slice A n c, .int .i64 k] w fun e w' => e = .returned (.int .i64 ((k + n : Nat) : Int)) ∧ w = w' := by
  go_enter Tryd.func53, Tryd.ntmps53
  go_wp2
  go_loop [1, 5] (fun q i => ∃ j : Nat, j ≤ n ∧ i = .int .i64 j ∧ q = .int .i64 ((k + j : Nat) : Int)) (fun _ i => n - (intOf i).toNat)
  case atStart => exact ⟨0, Nat.zero_le _, rfl, by simp⟩
  case round =>
    obtain ⟨j, hj, rfl, rfl⟩ := hrel
    by_cases hlt : j < n
    · have hlm : j < (markI k n).length := by rw [markI_len]; exact hlt
      obtain ⟨b, off, rfl, c0⟩ := hA.at_ hlm
      rw [markI_get] at c0
      go_wp2
      go_round
      case rel => exact ⟨j + 1, by omega, by go_num, by go_num⟩
      case measure => simp [intOf]; omega
    · have hjl : j = n := by omega
      subst hjl
      go_wp2
      go_ret
      exact ⟨by simp, rfl⟩

/-- The marks of a list of facts. -/
def markF (k n : Nat) : List Pl.Fct := (List.range n).map fun i => ⟨decide ((k + 3 * i) % 3 = 0), ((k + 3 * i + 1 : Nat) : Int), ((k + 3 * i + 2 : Nat) : Int)⟩
theorem markF_len (k n : Nat) : (markF k n).length = n := by simp [markF]
theorem markF_snoc (k n : Nat) : markF k (n + 1) = markF k n ++ [⟨decide ((k + 3 * n) % 3 = 0), ((k + 3 * n + 1 : Nat) : Int), ((k + 3 * n + 2 : Nat) : Int)⟩] := by simp [markF, List.range_succ]
theorem markF_get (k n i : Nat) (h : i < (markF k n).length) : (markF k n)[i] = ⟨decide ((k + 3 * i) % 3 = 0), ((k + 3 * i + 1 : Nat) : Int), ((k + 3 * i + 2 : Nat) : Int)⟩ := by simp [markF]
def halfF (k : Nat) (l : List Pl.Fct) (i : Nat) : List Value := (markF k i ++ l.drop i).flatMap fcells
theorem halfF_zero (k : Nat) (l : List Pl.Fct) : halfF k l 0 = l.flatMap fcells := by simp [halfF, markF]
theorem halfF_all (k : Nat) (l : List Pl.Fct) (i : Nat) (h : ¬ i < l.length) (hi : i ≤ l.length) : halfF k l i = (markF k l.length).flatMap fcells := by
  have : i = l.length := by omega
  subst this; simp [halfF]
theorem set_at {α : Type} (P : List α) (a b c : α) (Q : List α) (o : Nat) (ho : o = P.length) (x y z : α) :
    (((P ++ ([a, b, c] ++ Q)).set o x).set (o + 1) y).set (o + 2) z = P ++ ([x, y, z] ++ Q) := by
  subst ho
  rw [List.set_append_right _ _ (Nat.le_refl _), List.set_append_right _ _ (by omega), List.set_append_right _ _ (by omega)]
  simp [show P.length + 1 - P.length = 1 from by omega, show P.length + 2 - P.length = 2 from by omega]
theorem halfF_set (k : Nat) (l : List Pl.Fct) (i : Nat) (h : i < l.length) :
    (((halfF k l i).set (i * 3) (.bool (decide ((k + 3 * i) % 3 = 0)))).set (i * 3 + 1) (.int .i64 ((k + 3 * i + 1 : Nat) : Int))).set (i * 3 + 2) (.int .i64 ((k + 3 * i + 2 : Nat) : Int)) = halfF k l (i + 1) := by
  unfold halfF
  rw [List.drop_eq_getElem_cons h, List.flatMap_append, List.flatMap_cons, show fcells l[i] = [.bool l[i].e, .int .i64 l[i].a, .int .i64 l[i].b] from rfl,
    set_at _ _ _ _ _ _ (by rw [fcells_len, markF_len]), markF_snoc]
  simp [fcells]
theorem halfF_get (k : Nat) (l : List Pl.Fct) (i : Nat) (h : i < l.length) :
    (halfF k l i)[i * 3]? = some (.bool l[i].e) ∧ (halfF k l i)[i * 3 + 1]? = some (.int .i64 l[i].a) ∧ (halfF k l i)[i * 3 + 2]? = some (.int .i64 l[i].b) := by
  unfold halfF
  have h1 : i < (markF k i ++ l.drop i).length := by rw [List.length_append, markF_len, List.length_drop]; omega
  have h2 := fcells_get (markF k i ++ l.drop i) i h1
  have h3 : (markF k i ++ l.drop i)[i] = l[i] := by
    rw [List.getElem_append_right (by rw [markF_len]; omega)]
    simp [markF_len]
  rw [h3] at h2
  exact h2

set_option maxHeartbeats 400000 in
theorem markFactS_c (A : Option Addr) (c lo : Nat) (l : List Pl.Fct) (k : Nat) (w : World) (hA : OFacts w lo (.slice A l.length c) l) (hn : l.length ≤ 4194304) (hk : k ≤ 4611686018427387904) :
    Calls Tryd.prog 70 #[.slice A l.length c, .int .i64 k] w fun e w' => e = .returned (.int .i64 ((k + 3 * l.length : Nat) : Int)) ∧ OFacts w' lo (.slice A l.length c) (markF k l.length) ∧ w.grownBy w' (Value.slice A l.length c).ownBlock := by
  have hml : (markF k l.length).length = l.length := markF_len _ _
  have HA : w.ownsRow lo 78 3 (.slice A l.length c) l.length (halfF k l 0) := by rw [halfF_zero]; exact hA
  clear hA
  suffices h : Calls Tryd.prog 70 #[.slice A l.length c, .int .i64 k] w fun e w' => e = .returned (.int .i64 ((k + 3 * l.length : Nat) : Int)) ∧ w'.ownsRow lo 78 3 (.slice A l.length c) l.length ((markF k l.length).flatMap fcells) ∧ w.grownBy w' (Value.slice A l.length c).ownBlock from
    h.mono fun e w' ⟨a, b, d⟩ => ⟨a, by show World.ownsRow _ _ _ _ _ (markF k l.length).length _; rw [hml]; exact b, d⟩
  clear hml
  go_enter Tryd.func70, Tryd.ntmps70
  go_wp2
  go_loopw [1, 5] (fun q i wr => ∃ j : Nat, j ≤ l.length ∧ i = .int .i64 j ∧ q = .int .i64 ((k + 3 * j : Nat) : Int) ∧ wr.ownsRow lo 78 3 (.slice A l.length c) l.length (halfF k l j) ∧ w.grownBy wr (Value.slice A l.length c).ownBlock) (fun _ i _ => l.length - (intOf i).toNat)
  case atStart => exact ⟨0, Nat.zero_le _, rfl, by simp, HA, World.grownBy.refl _ _⟩
  case round =>
    obtain ⟨j, hj, rfl, rfl, ho, hg⟩ := hrel
    by_cases hlt : j < l.length
    · obtain ⟨g, rfl, hgl, hgs⟩ := own_some ho (by omega)
      obtain ⟨e0, e1, e2⟩ := halfF_get k l j hlt
      have c0 := own_cellAt ho e0
      have c1 := own_cellAt ho e1
      have c2 := own_cellAt ho e2
      have f0 := World.ownsRow.frozenAt ho (j * 3)
      have f1 := World.ownsRow.frozenAt ho (j * 3 + 1)
      have f2 := World.ownsRow.frozenAt ho (j * 3 + 2)
      clear e0 e1 e2
      go_wp2
      go_roundw
      case rel =>
        refine ⟨j + 1, by omega, by go_num, by go_num, ?_, only_setCell (only_setCell (only_setCell hg _ _) _ _) _ _⟩
        have h1 := own_set (own_set (own_set ho (j * 3) (.bool (decide ((k + 3 * j) % 3 = 0)))) (j * 3 + 1) (.int .i64 ((k + 3 * j + 1 : Nat) : Int))) (j * 3 + 2) (.int .i64 ((k + 3 * j + 2 : Nat) : Int))
        rw [halfF_set k l j hlt] at h1
        have e0 : ((k : Int) % 3 == 0) = decide ((k + 3 * j) % 3 = 0) := by rw [Bool.eq_iff_iff]; simp; omega
        have e1 : ((k : Int) + 3 * (j : Int) + 1) = ((k + 3 * j + 1 : Nat) : Int) := by omega
        have e2 : ((k : Int) + 3 * (j : Int) + 1 + 1) = ((k + 3 * j + 2 : Nat) : Int) := by omega
        rw [e2, e1, e0]
        exact h1
      case measure => simp [intOf]; omega
    · have H := Lib.hid (halfF_all k l j hlt hj)
      have hjl : j = l.length := by omega
      subst hjl
      go_wp2
      go_ret
      exact ⟨by simp, by rw [← H.out]; exact ho, hg⟩

end Go.Proofs.YtifdefkkofngoaaDoor
