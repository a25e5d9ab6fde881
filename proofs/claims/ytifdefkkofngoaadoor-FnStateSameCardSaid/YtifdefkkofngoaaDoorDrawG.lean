/- The draws of facts, continued: lists that may be invalid, values, and the arguments of the laws. No conditions but the bounds on what the reader has picked. -/
import Derived.Test.YtifdefkkofngoaaDoorDrawF
namespace Go.Proofs.YtifdefkkofngoaaDoor
open Go.RowKit
set_option linter.unusedVariables false

theorem ofacts_snoc {w : World} {lo c : Nat} {A : Option Addr} {l : List Pl.Fct} {f : Pl.Fct} (h : w.ownsRow lo 78 3 (.slice A (l.length + 1) c) (l.length + 1) ((l ++ [f]).flatMap fcells)) : OFacts w lo (.slice A (l ++ [f]).length c) (l ++ [f]) := by
  show World.ownsRow _ _ _ _ (.slice _ (l ++ [f]).length _) (l ++ [f]).length _
  rw [List.length_append]; exact h


set_option maxRecDepth 100000 in
set_option maxHeartbeats 800000 in
theorem l1Mutate_c (g q : Nat) (A : Option Addr) (n c : Nat) (l : List Pl.Fct) (w : World) (hr : RD w g q) (hq : q ≤ 800000) (hn : n = l.length) (hA : Facts w A l) (hl : l.length ≤ 100) :
    Calls Tryd.prog 118 #[.pointer (some ⟨g, 0, none⟩), .slice A n c] w fun e w' => (∃ (l' : List Pl.Fct) (A' : Option Addr) (c' : Nat), l'.length ≤ l.length + 13 ∧ e = .returned (.slice A' l'.length c') ∧ OFacts w' w.heap.size (.slice A' l'.length c') l') ∧ RD w' g (q + 2) ∧ w.grownBy w' (some g) := by
  subst hn
  have hlt := hr.lt
  obtain ⟨i0, hi, hz0, hz1, hz2⟩ := info_parts fact_info
  go_enter Tryd.func118, Tryd.ntmps118
  go_wp2_with (at_builtin; go_must (refine wpList_append_src _ rfl _ _ 43 rfl w.heap.size 78 i0 _ 3 24 Tryd.underlying43 hi hz0 hz1 hz2 rfl (by omega) _ 0 [] rfl (own_empty (heap_alloc_new _ _) (Nat.le_refl _)) A l.length c (l.flatMap fcells) rfl (fcells_len l) (hA.cells.grow (by repeat (first | exact Grow.refl _ | assumption | refine Grow.alloc ?_ _ | refine Grow.drew ?_ | refine Grow.drewN ?_ _ | refine Grow.trans ?_ (by assumption) | refine Grow.below ?_ (by assumption) (by first | exact Nat.le_refl _ | omega)))) (fcellsL_one l) (by unfold maxLen; omega) (by omega) (by simp) l.length (by omega) (l.flatMap fcells) (by simp) ?_; intro A1 c1 w1 ho1 _ _ hb1))
  have hg1 : Grow w w1 := (by repeat (first | exact Grow.refl _ | assumption | refine Grow.alloc ?_ _ | refine Grow.drew ?_ | refine Grow.drewN ?_ _ | refine Grow.trans ?_ (by assumption) | refine Grow.below ?_ (by assumption) (by first | exact Nat.le_refl _ | omega)))
  have hsz1 := hg1.size
  refine (pick_c g q 40 _ (hr.grow hg1) (by omega) (by omega) (by omega)).mono ?_
  rintro e w2 ⟨⟨v, hv, rfl⟩, hr2, hg2⟩
  have ho2 := own_kept ho1 hg2 (fun k hk e => by have := own_blk ho1 k hk; injection e with e; omega)
  have hg : w.grownBy w2 (some g) := by_trans (hg1.by_ _) hg2
  have hsz2 := hg.size
  clear hb1 hg2 hr ho1 hA
  rcases (show v = 0 ∨ v = 1 ∨ 2 ≤ v from by omega) with rfl | rfl | h2
  · go_wp2_with fail
    have h0 := lit_own w2 [-1, 9, 9223372036854775807] _ rfl (by simp)
    refine (num_c g _ 3 w2.heap.size _ [-1, 9, 9223372036854775807] _ (hr2.grow (by repeat (first | exact Grow.refl _ | assumption | refine Grow.alloc ?_ _ | refine Grow.drew ?_ | refine Grow.drewN ?_ _ | refine Grow.trans ?_ (by assumption) | refine Grow.below ?_ (by assumption) (by first | exact Nat.le_refl _ | omega)))) (by omega) (by simp) (by simp) h0 (by omega)).mono ?_
    rintro e w3 ⟨⟨v, hv, rfl⟩, hr3, hg3⟩
    have ho3 := own_kept (own_grow ho2 (show Grow w2 _ from (by repeat (first | exact Grow.refl _ | assumption | refine Grow.alloc ?_ _ | refine Grow.drew ?_ | refine Grow.drewN ?_ _ | refine Grow.trans ?_ (by assumption) | refine Grow.below ?_ (by assumption) (by first | exact Nat.le_refl _ | omega))))) hg3 (fun k hk e => by have := own_blk ho2 k hk; injection e with e; omega)
    have hg4 : w.grownBy w3 (some g) := by_trans (by_alloc hg _) hg3
    have hsz3 := hg4.size
    clear hg hg3 h0 hr2 ho2 hv
    go_wp2_with (at_builtin; go_must (refine wpList_append_src _ rfl _ _ 43 rfl w.heap.size 78 i0 _ 3 24 Tryd.underlying43 hi hz0 hz1 hz2 rfl (by omega) _ l.length (l.flatMap fcells) rfl (own_grow ho3 (by repeat (first | exact Grow.refl _ | assumption | refine Grow.alloc ?_ _ | refine Grow.drew ?_ | refine Grow.drewN ?_ _ | refine Grow.trans ?_ (by assumption) | refine Grow.below ?_ (by assumption) (by first | exact Nat.le_refl _ | omega)))) _ 1 1 (fcells (⟨false, v, 0⟩ : Pl.Fct)) rfl rfl (Cells.block (heap_alloc_new _ _)) (fcells_one (⟨false, v, 0⟩ : Pl.Fct)) (by unfold maxLen; omega) (by omega) (by simp; omega) (l.length + 1) rfl ((l ++ [(⟨false, v, 0⟩ : Pl.Fct)]).flatMap fcells) (by rw [List.flatMap_append]; simp) ?_; intro A3 c3 w3 ho3 _ _ hb3))
    go_ret
    exact ⟨⟨l ++ [⟨false, v, 0⟩], A3, c3, by simp, by simp, ofacts_snoc ho3⟩, (hr3.grow (by repeat (first | exact Grow.refl _ | assumption | refine Grow.alloc ?_ _ | refine Grow.drew ?_ | refine Grow.drewN ?_ _ | refine Grow.trans ?_ (by assumption) | refine Grow.below ?_ (by assumption) (by first | exact Nat.le_refl _ | omega)))).below hb3 hlt, by_below (by_alloc hg4 _) hb3 (Nat.le_refl _)⟩
  · obtain ⟨n0, hn0, hn1⟩ : ∃ n0, l.length ≤ n0 ∧ n0 ≤ l.length := ⟨_, Nat.le_refl _, Nat.le_refl _⟩
    go_wp2_with fail
    go_loopw [5] (fun v wr => RD wr g (q + 1) ∧ w.grownBy wr (some g) ∧ ∃ (l : List Pl.Fct) (A : Option Addr) (c : Nat), v = .slice A l.length c ∧ OFacts wr w.heap.size (.slice A l.length c) l ∧ l.length ≤ n0 + 13) (fun v _ => match v with | .slice _ n _ => 40 - n | _ => 0)
    case atStart => exact ⟨hr2, hg, l, _, _, rfl, ho2, by omega⟩
    case round =>
      clear ho2 hg hr2
      obtain ⟨hr2, hg, l, A, c, rfl, ho, hlk⟩ := hrel
      have hsz3 := hg.size
      by_cases hk : l.length ≤ 12
      · have hk1 : (l.length : Int) ≤ 12 := by omega
        go_wp2_with (at_builtin; go_must (refine wpList_append_src _ rfl _ _ 43 rfl w.heap.size 78 i0 _ 3 24 Tryd.underlying43 hi hz0 hz1 hz2 rfl (by omega) _ l.length (l.flatMap fcells) rfl (own_grow ho (by repeat (first | exact Grow.refl _ | assumption | refine Grow.alloc ?_ _ | refine Grow.drew ?_ | refine Grow.drewN ?_ _ | refine Grow.trans ?_ (by assumption) | refine Grow.below ?_ (by assumption) (by first | exact Nat.le_refl _ | omega)))) _ 1 1 (fcells (⟨true, 1, 2⟩ : Pl.Fct)) rfl rfl (Cells.block (heap_alloc_new _ _)) (fcells_one (⟨true, 1, 2⟩ : Pl.Fct)) (by unfold maxLen; omega) (by omega) (by simp; omega) (l.length + 1) rfl ((l ++ [(⟨true, 1, 2⟩ : Pl.Fct)]).flatMap fcells) (by rw [List.flatMap_append]; simp) ?_; intro A3 c3 w3 ho3 _ _ hb3))
        go_roundw
        case rel => exact ⟨(hr2.grow (by repeat (first | exact Grow.refl _ | assumption | refine Grow.alloc ?_ _ | refine Grow.drew ?_ | refine Grow.drewN ?_ _ | refine Grow.trans ?_ (by assumption) | refine Grow.below ?_ (by assumption) (by first | exact Nat.le_refl _ | omega)))).below hb3 hlt, by_below (by_alloc hg _) hb3 (Nat.le_refl _), l ++ [⟨true, 1, 2⟩], A3, c3, by simp, ofacts_snoc ho3, by simp; omega⟩
        case measure => simp; omega
      · have hk1 : (12 : Int) < (l.length : Int) := by omega
        go_wp2
        go_ret
        exact ⟨⟨l, A, c, by omega, rfl, ho⟩, hr2.more (by omega), hg⟩
  · have b0 : ((v : Int) == 0) = false := by simp; omega
    have b1 : ((v : Int) == 1) = false := by simp; omega
    go_wp2_with fail
    go_ret
    exact ⟨⟨l, A1, c1, by omega, rfl, ho2⟩, hr2.more (by omega), hg⟩

end Go.Proofs.YtifdefkkofngoaaDoor
