/- The draws of facts, continued: lists that may be invalid, values, and the arguments of the laws. No conditions but the bounds on what the reader has picked. -/
import Derived.Test.YtcpkmnlhenbnlaaDrawF
namespace Go.Proofs.Ytcpkmnlhenbnlaa
open Go.RowKit
set_option linter.unusedVariables false

theorem ofacts_snoc {w : World} {lo c : Nat} {A : Option Addr} {l : List Pl.Fct} {f : Pl.Fct} (h : w.ownsRow lo 37 3 (.slice A (l.length + 1) c) (l.length + 1) ((l ++ [f]).flatMap fcells)) : OFacts w lo (.slice A (l ++ [f]).length c) (l ++ [f]) := by
  show World.ownsRow _ _ _ _ (.slice _ (l ++ [f]).length _) (l ++ [f]).length _
  rw [List.length_append]; exact h


set_option maxHeartbeats 800000 in
theorem l1Mutate_c (g q : Nat) (A : Option Addr) (n c : Nat) (l : List Pl.Fct) (w : World) (hr : RD w g q) (hq : q ≤ 800000) (hn : n = l.length) (hA : Facts w A l) (hl : l.length ≤ 30) :
    Calls Try.prog 52 #[.pointer (some ⟨g, 0, none⟩), .slice A n c] w fun e w' => (∃ (l' : List Pl.Fct) (A' : Option Addr) (c' : Nat), l'.length ≤ 40 ∧ e = .returned (.slice A' l'.length c') ∧ OFacts w' w.heap.size (.slice A' l'.length c') l') ∧ RD w' g (q + 2) ∧ w.grownBy w' (some g) := by
  subst hn
  have hlt := hr.lt
  obtain ⟨i0, hi, hz0, hz1, hz2⟩ := info_parts fact_info
  go_enter Try.func52, Try.ntmps52
  go_wp2_with (at_builtin; go_must (refine wpList_append_src _ rfl _ _ 25 rfl w.heap.size 37 i0 _ 3 24 Try.underlying25 hi hz0 hz1 hz2 rfl (by omega) _ 0 [] rfl (own_empty (heap_alloc_new _ _) (Nat.le_refl _)) A l.length c (l.flatMap fcells) rfl (fcells_len l) (hA.cells.grow (by repeat (first | exact Grow.refl _ | assumption | refine Grow.alloc ?_ _ | refine Grow.drew ?_ | refine Grow.drewN ?_ _ | refine Grow.trans ?_ (by assumption) | refine Grow.below ?_ (by assumption) (by first | exact Nat.le_refl _ | omega)))) (fcellsL_one l) (by unfold maxLen; omega) (by omega) (by simp) l.length (by omega) (l.flatMap fcells) (by simp) ?_; intro A1 c1 w1 ho1 _ _ hb1))
  have hg1 : Grow w w1 := (by repeat (first | exact Grow.refl _ | assumption | refine Grow.alloc ?_ _ | refine Grow.drew ?_ | refine Grow.drewN ?_ _ | refine Grow.trans ?_ (by assumption) | refine Grow.below ?_ (by assumption) (by first | exact Nat.le_refl _ | omega)))
  have hsz1 := hg1.size
  refine (pick_c g q 40 _ (hr.grow hg1) (by omega) (by omega) (by omega)).mono ?_
  rintro e w2 ⟨⟨v, hv, rfl⟩, hr2, hg2⟩
  have ho2 := own_kept ho1 hg2 (fun k hk e => by have := own_blk ho1 k hk; injection e with e; omega)
  have hg : w.grownBy w2 (some g) := by_trans (hg1.by_ _) hg2
  have hsz2 := hg.size
  clear hb1 hg2 hr ho1 hA
  rcases (show v = 0 ∨ v = 1 ∨ 2 ≤ v from by omega) with rfl | rfl | h2
  · go_wp2_with fail
    have h0 := lit_own w2 [-1, 9, 9223372036854775807] _ rfl (by simp)
    refine (num_c g _ 3 w2.heap.size _ [-1, 9, 9223372036854775807] _ (hr2.grow (by repeat (first | exact Grow.refl _ | assumption | refine Grow.alloc ?_ _ | refine Grow.drew ?_ | refine Grow.drewN ?_ _ | refine Grow.trans ?_ (by assumption) | refine Grow.below ?_ (by assumption) (by first | exact Nat.le_refl _ | omega)))) (by omega) (by simp) (by simp) h0 (by omega)).mono ?_
    rintro e w3 ⟨⟨v, hv, rfl⟩, hr3, hg3⟩
    have ho3 := own_kept (own_grow ho2 (show Grow w2 _ from (by repeat (first | exact Grow.refl _ | assumption | refine Grow.alloc ?_ _ | refine Grow.drew ?_ | refine Grow.drewN ?_ _ | refine Grow.trans ?_ (by assumption) | refine Grow.below ?_ (by assumption) (by first | exact Nat.le_refl _ | omega))))) hg3 (fun k hk e => by have := own_blk ho2 k hk; injection e with e; omega)
    have hg4 : w.grownBy w3 (some g) := by_trans (by_alloc hg _) hg3
    have hsz3 := hg4.size
    clear hg hg3 h0 hr2 ho2 hv
    go_wp2_with (at_builtin; go_must (refine wpList_append_src _ rfl _ _ 25 rfl w.heap.size 37 i0 _ 3 24 Try.underlying25 hi hz0 hz1 hz2 rfl (by omega) _ l.length (l.flatMap fcells) rfl (own_grow ho3 (by repeat (first | exact Grow.refl _ | assumption | refine Grow.alloc ?_ _ | refine Grow.drew ?_ | refine Grow.drewN ?_ _ | refine Grow.trans ?_ (by assumption) | refine Grow.below ?_ (by assumption) (by first | exact Nat.le_refl _ | omega)))) _ 1 1 (fcells (⟨false, v, 0⟩ : Pl.Fct)) rfl rfl (Cells.block (heap_alloc_new _ _)) (fcells_one (⟨false, v, 0⟩ : Pl.Fct)) (by unfold maxLen; omega) (by omega) (by simp; omega) (l.length + 1) rfl ((l ++ [(⟨false, v, 0⟩ : Pl.Fct)]).flatMap fcells) (by rw [List.flatMap_append]; simp) ?_; intro A3 c3 w3 ho3 _ _ hb3))
    go_ret
    exact ⟨⟨l ++ [⟨false, v, 0⟩], A3, c3, by simp; omega, by simp, ofacts_snoc ho3⟩, (hr3.grow (by repeat (first | exact Grow.refl _ | assumption | refine Grow.alloc ?_ _ | refine Grow.drew ?_ | refine Grow.drewN ?_ _ | refine Grow.trans ?_ (by assumption) | refine Grow.below ?_ (by assumption) (by first | exact Nat.le_refl _ | omega)))).below hb3 hlt, by_below (by_alloc hg4 _) hb3 (Nat.le_refl _)⟩
  · go_wp2_with fail
    go_loopw [5] (fun v wr => RD wr g (q + 1) ∧ w.grownBy wr (some g) ∧ ∃ (l : List Pl.Fct) (A : Option Addr) (c : Nat), v = .slice A l.length c ∧ OFacts wr w.heap.size (.slice A l.length c) l ∧ l.length ≤ 31) (fun v _ => match v with | .slice _ n _ => 40 - n | _ => 0)
    case atStart => exact ⟨hr2, hg, l, _, _, rfl, ho2, by omega⟩
    case round =>
      clear ho2 hg hr2
      obtain ⟨hr2, hg, l, A, c, rfl, ho, hlk⟩ := hrel
      have hsz3 := hg.size
      by_cases hk : l.length ≤ 12
      · have hk1 : (l.length : Int) ≤ 12 := by omega
        go_wp2_with (at_builtin; go_must (refine wpList_append_src _ rfl _ _ 25 rfl w.heap.size 37 i0 _ 3 24 Try.underlying25 hi hz0 hz1 hz2 rfl (by omega) _ l.length (l.flatMap fcells) rfl (own_grow ho (by repeat (first | exact Grow.refl _ | assumption | refine Grow.alloc ?_ _ | refine Grow.drew ?_ | refine Grow.drewN ?_ _ | refine Grow.trans ?_ (by assumption) | refine Grow.below ?_ (by assumption) (by first | exact Nat.le_refl _ | omega)))) _ 1 1 (fcells (⟨true, 1, 2⟩ : Pl.Fct)) rfl rfl (Cells.block (heap_alloc_new _ _)) (fcells_one (⟨true, 1, 2⟩ : Pl.Fct)) (by unfold maxLen; omega) (by omega) (by simp; omega) (l.length + 1) rfl ((l ++ [(⟨true, 1, 2⟩ : Pl.Fct)]).flatMap fcells) (by rw [List.flatMap_append]; simp) ?_; intro A3 c3 w3 ho3 _ _ hb3))
        go_roundw
        case rel => exact ⟨(hr2.grow (by repeat (first | exact Grow.refl _ | assumption | refine Grow.alloc ?_ _ | refine Grow.drew ?_ | refine Grow.drewN ?_ _ | refine Grow.trans ?_ (by assumption) | refine Grow.below ?_ (by assumption) (by first | exact Nat.le_refl _ | omega)))).below hb3 hlt, by_below (by_alloc hg _) hb3 (Nat.le_refl _), l ++ [⟨true, 1, 2⟩], A3, c3, by simp, ofacts_snoc ho3, by simp; omega⟩
        case measure => simp; omega
      · have hk1 : (12 : Int) < (l.length : Int) := by omega
        go_wp2
        go_ret
        exact ⟨⟨l, A, c, by omega, rfl, ho⟩, hr2.more (by omega), hg⟩
  · have b0 : ((v : Int) == 0) = false := by simp; omega
    have b1 : ((v : Int) == 1) = false := by simp; omega
    go_wp2_with fail
    go_ret
    exact ⟨⟨l, A1, c1, by omega, rfl, ho2⟩, hr2.more (by omega), hg⟩

set_option maxHeartbeats 800000 in
theorem l1Values_c (g q : Nat) (w : World) (hr : RD w g q) (hq : q ≤ 800000) :
    Calls Try.prog 57 #[.pointer (some ⟨g, 0, none⟩)] w fun e w' => (∃ (l : List Int) (A : Option Addr) (c : Nat), l.length = 8 ∧ e = .returned (.slice A 8 c) ∧ OInts w' w.heap.size (.slice A l.length c) l) ∧ RD w' g (q + 8) ∧ w.grownBy w' (some g) := by
  have hlt := hr.lt
  obtain ⟨i0, hi, hz0, hz1, hz2⟩ := info_parts int_info
  go_enter Try.func57, Try.ntmps57
  go_wp2_with fail
  go_loopw [3, 4] (fun v i wr => ∃ k : Nat, k ≤ 8 ∧ i = .int .i64 k ∧ RD wr g (q + k) ∧ w.grownBy wr (some g) ∧ ∃ (l : List Int) (A : Option Addr) (c : Nat), v = .slice A l.length c ∧ OInts wr w.heap.size (.slice A l.length c) l ∧ l.length = k) (fun _ i _ => 8 - (intOf i).toNat)
  case atStart => exact ⟨0, by omega, rfl, hr.grow (by repeat (first | exact Grow.refl _ | assumption | refine Grow.alloc ?_ _ | refine Grow.drew ?_ | refine Grow.drewN ?_ _ | refine Grow.trans ?_ (by assumption) | refine Grow.below ?_ (by assumption) (by first | exact Nat.le_refl _ | omega))), by_alloc (World.grownBy.refl _ _) _, [], _, _, rfl, own_empty (heap_alloc_new _ _) (Nat.le_refl _), rfl⟩
  case round =>
    obtain ⟨k, hk, rfl, hr1, hg, l, A, c, rfl, ho, hlk⟩ := hrel
    have HL := Lib.hid hlk
    have hl1 : l.length ≤ 8 := by omega
    by_cases hk0 : k < 8
    · have hk1 : (k : Int) < 8 := by omega
      have hl2 : l.length < 8 := by omega
      clear hlk
      go_wp2_with fail
      have h0 := lit_own wr [1, 2, 0, 3, 1, 2] _ rfl (by simp)
      refine (num_c g _ 6 wr.heap.size _ [1, 2, 0, 3, 1, 2] _ (hr1.grow (by repeat (first | exact Grow.refl _ | assumption | refine Grow.alloc ?_ _ | refine Grow.drew ?_ | refine Grow.drewN ?_ _ | refine Grow.trans ?_ (by assumption) | refine Grow.below ?_ (by assumption) (by first | exact Nat.le_refl _ | omega)))) (by omega) (by simp) (by simp) h0 hr1.lt).mono ?_
      rintro e w2 ⟨⟨v, hv, rfl⟩, hr2, hg2⟩
      have ho2 := own_kept (own_grow ho (show Grow wr _ from (by repeat (first | exact Grow.refl _ | assumption | refine Grow.alloc ?_ _ | refine Grow.drew ?_ | refine Grow.drewN ?_ _ | refine Grow.trans ?_ (by assumption) | refine Grow.below ?_ (by assumption) (by first | exact Nat.le_refl _ | omega))))) hg2 (fun k hk e => by have := own_blk ho k hk; injection e with e; omega)
      have hg3 : w.grownBy w2 (some g) := by_trans (by_alloc hg _) hg2
      have hsz := hg3.size
      clear hg hg2 ho h0 hv
      go_wp2_with (at_builtin; go_must (refine wpList_append_src _ rfl _ _ 29 rfl w.heap.size 3 i0 _ 1 8 Try.underlying29 hi hz0 hz1 hz2 rfl (by omega) _ l.length (l.map (Value.int .i64)) rfl (own_grow ho2 (by repeat (first | exact Grow.refl _ | assumption | refine Grow.alloc ?_ _ | refine Grow.drew ?_ | refine Grow.drewN ?_ _ | refine Grow.trans ?_ (by assumption) | refine Grow.below ?_ (by assumption) (by first | exact Nat.le_refl _ | omega)))) _ 1 1 [.int .i64 v] rfl rfl (Cells.block (heap_alloc_new _ _)) (by intro u hu; rw [List.mem_singleton.1 hu]; rfl) (by unfold maxLen; omega) (by omega) (by simp; omega) (l.length + 1) rfl ((l ++ [v]).map (Value.int .i64)) (by simp) ?_; intro A3 c3 w3 ho3 _ _ hb3))
      go_roundw
      case rel =>
        refine ⟨k + 1, by omega, by go_num, ((hr2.grow (by repeat (first | exact Grow.refl _ | assumption | refine Grow.alloc ?_ _ | refine Grow.drew ?_ | refine Grow.drewN ?_ _ | refine Grow.trans ?_ (by assumption) | refine Grow.below ?_ (by assumption) (by first | exact Nat.le_refl _ | omega)))).below hb3 hlt).more (by omega), by_below (by_alloc hg3 _) hb3 (Nat.le_refl _), l ++ [v], A3, c3, by simp, ?_, by have := HL.out; simp; omega⟩
        show World.ownsRow _ _ _ _ (.slice _ (l ++ [v]).length _) (l ++ [v]).length _
        rw [List.length_append]; exact ho3
      case measure => simp [intOf]; omega
    · have hk1 : (8 : Int) ≤ (k : Int) := by omega
      have h8 : l.length = 8 := by omega
      clear hlk HL
      have H8 := Lib.hid h8
      clear h8
      go_wp2
      go_ret
      exact ⟨⟨l, A, c, H8.out, by rw [← H8.out]; rfl, ho⟩, hr1.more (by omega), hg⟩

theorem DrawFactsValid_c (A : Option Addr) (n c : Nat) (w : World) (hb : Bytes w A n) (hn : n ≤ 9223372036854775807) (hc : n ≤ c) :
    Calls Try.prog 50 #[.slice A n c] w fun e w' => ∃ (l : List Pl.Fct) (A' : Option Addr) (c' : Nat), l.length ≤ 40 ∧ e = .returned (.slice A' l.length c') ∧ OFacts w' w.heap.size (.slice A' l.length c') l ∧ Grow w w' := by
  go_enter Try.func50, Try.ntmps50
  go_wp2_with fail
  refine (l18Open_c A n c _ hb hn hc).mono ?_
  rintro e w1 ⟨g, rfl, hr1, hgl, g1⟩
  have hs1 := g1.le
  go_wp2_with fail
  refine (l1Facts_c g 0 _ hr1 (by omega)).mono ?_
  rintro e w2 ⟨⟨l, A2, c2, hl, _, rfl, ho2⟩, hr2, b2⟩
  go_wp2_with fail
  refine (l1Mutate_c g _ A2 _ c2 l _ hr2 (by omega) rfl (OFacts.facts rfl ho2) (by omega)).mono ?_
  rintro e w3 ⟨⟨l3, A3, c3, hl3, rfl, ho3⟩, hr3, b3⟩
  have hs2 := b2.size
  go_wp2_with fail
  go_ret
  exact ⟨l3, A3, c3, hl3, rfl, own_lo ho3 (by omega), (g1.grown b2 (fun k hk => by injection hk with hk; omega)).grown b3 (fun k hk => by injection hk with hk; omega)⟩


theorem DrawTermClasses_c (A : Option Addr) (n c : Nat) (w : World) (hb : Bytes w A n) (hn : n ≤ 9223372036854775807) (hc : n ≤ c) :
    Calls Try.prog 36 #[.slice A n c] w fun e w' => ∃ (l : List Pl.Fct) (A' : Option Addr) (c' : Nat), l.length ≤ 40 ∧ e = .returned (.slice A' l.length c') ∧ OFacts w' w.heap.size (.slice A' l.length c') l ∧ Grow w w' := by
  go_enter Try.func36, Try.ntmps36
  go_wp2_with fail
  refine (DrawFactsValid_c A n c _ hb hn hc).mono ?_
  rintro e w1 ⟨l, A1, c1, hl, rfl, ho1, g1⟩
  go_wp2_with fail
  go_ret
  exact ⟨l, A1, c1, hl, rfl, ho1, g1⟩

theorem DrawFactsConsistent_c (A : Option Addr) (n c : Nat) (w : World) (hb : Bytes w A n) (hn : n ≤ 9223372036854775807) (hc : n ≤ c) :
    Calls Try.prog 34 #[.slice A n c] w fun e w' => ∃ (l : List Pl.Fct) (A' : Option Addr) (c' : Nat), l.length ≤ 40 ∧ e = .returned (.slice A' l.length c') ∧ OFacts w' w.heap.size (.slice A' l.length c') l ∧ Grow w w' := by
  go_enter Try.func34, Try.ntmps34
  go_wp2_with fail
  refine (DrawFactsValid_c A n c _ hb hn hc).mono ?_
  rintro e w1 ⟨l, A1, c1, hl, rfl, ho1, g1⟩
  go_wp2_with fail
  go_ret
  exact ⟨l, A1, c1, hl, rfl, ho1, g1⟩

end Go.Proofs.Ytcpkmnlhenbnlaa
