/- The draws of facts: what they return is well formed and lies in new memory. No conditions but the bounds on what the reader has picked. -/
import Derived.Test.YtcpkmnlhenbnlaaRd
namespace Go.Proofs.Ytcpkmnlhenbnlaa
open Go.RowKit
set_option linter.unusedVariables false

theorem l18Open_c (A : Option Addr) (n c : Nat) (w : World) (hb : Bytes w A n) (hn : n ≤ 9223372036854775807) (hc : n ≤ c) :
    Calls Try.prog 51 #[.slice A n c] w fun e w' => ∃ g, e = .returned (.pointer (some ⟨g, 0, none⟩)) ∧ RD w' g 0 ∧ w.heap.size ≤ g ∧ Grow w w' := by
  by_cases h : n ≤ 2000
  · have h1 : (n : Int) ≤ 2000 := by omega
    go_enter Try.func51, Try.ntmps51
    go_wp2
    go_ret
    exact ⟨w.heap.size, rfl, ⟨A, n, c, 0, heap_alloc_new w _, h, hb.bound.below (show Grow w _ from (by repeat (first | exact Grow.refl _ | assumption | refine Grow.alloc ?_ _ | refine Grow.drew ?_ | refine Grow.drewN ?_ _ | refine Grow.trans ?_ (by assumption) | refine Grow.below ?_ (by assumption) (by first | exact Nat.le_refl _ | omega)))) (Nat.le_refl _), Nat.le_refl _⟩, Nat.le_refl _, (by repeat (first | exact Grow.refl _ | assumption | refine Grow.alloc ?_ _ | refine Grow.drew ?_ | refine Grow.drewN ?_ _ | refine Grow.trans ?_ (by assumption) | refine Grow.below ?_ (by assumption) (by first | exact Nat.le_refl _ | omega)))⟩
  · have h1 : (2000 : Int) < (n : Int) := by omega
    have h2 : (2000 : Int) ≤ (c : Int) := by omega
    obtain ⟨b, off, rfl, hcl⟩ := hb (by omega)
    have hb2 : Bytes w (some ⟨b, off, none⟩) 2000 := fun _ => ⟨b, off, rfl, fun i hi => hcl i (by omega)⟩
    clear hb hcl
    go_enter Try.func51, Try.ntmps51
    go_wp2
    go_ret
    exact ⟨w.heap.size, rfl, ⟨_, 2000, c, 0, heap_alloc_new w _, by omega, hb2.bound.below (show Grow w _ from (by repeat (first | exact Grow.refl _ | assumption | refine Grow.alloc ?_ _ | refine Grow.drew ?_ | refine Grow.drewN ?_ _ | refine Grow.trans ?_ (by assumption) | refine Grow.below ?_ (by assumption) (by first | exact Nat.le_refl _ | omega)))) (Nat.le_refl _), Nat.le_refl _⟩, Nat.le_refl _, (by repeat (first | exact Grow.refl _ | assumption | refine Grow.alloc ?_ _ | refine Grow.drew ?_ | refine Grow.drewN ?_ _ | refine Grow.trans ?_ (by assumption) | refine Grow.below ?_ (by assumption) (by first | exact Nat.le_refl _ | omega)))⟩

theorem lit_own (w : World) (l : List Int) (cs : Array Value) (hcs : cs = (l.map (Value.int .i64)).toArray) (hl : l.length ≤ 100) : OInts (w.alloc (.cells cs 3)) w.heap.size (.slice (some ⟨w.heap.size, 0, none⟩) l.length l.length) l := by
  subst hcs
  have h := World.ownsRow_lit (e := 3) (size := 1) w (l.map (Value.int .i64)).toArray l.length (Nat.le_refl _) (by unfold maxLen; omega) (by simp)
  simpa using h

theorem l1Term_c (g q : Nat) (w : World) (hr : RD w g q) (hq : q ≤ 999000) :
    Calls Try.prog 61 #[.pointer (some ⟨g, 0, none⟩)] w fun e w' => (∃ v : Int, (0 ≤ v ∧ v ≤ 8) ∧ e = .returned (.int .i64 v)) ∧ RD w' g (q + 1) ∧ w.grownBy w' (some g) := by
  go_enter Try.func61, Try.ntmps61
  go_wp2_with fail
  refine (num_c g q 9 w.heap.size _ [1, 2, 3, 0, 5, 4, 6, 7, 8] _ (hr.grow (by repeat (first | exact Grow.refl _ | assumption | refine Grow.alloc ?_ _ | refine Grow.drew ?_ | refine Grow.drewN ?_ _ | refine Grow.trans ?_ (by assumption) | refine Grow.below ?_ (by assumption) (by first | exact Nat.le_refl _ | omega)))) (by omega) (by simp) (by simp) (lit_own w [1, 2, 3, 0, 5, 4, 6, 7, 8] _ rfl (by simp)) hr.lt).mono ?_
  rintro e w1 ⟨⟨v, hv, rfl⟩, hr1, hg1⟩
  go_wp2_with fail
  go_ret
  exact ⟨⟨v, by simp at hv; omega, rfl⟩, hr1, by_trans (by_alloc (World.grownBy.refl _ _) _) hg1⟩

theorem l1Fact_c (g q : Nat) (w : World) (hr : RD w g q) (hq : q ≤ 990000) :
    Calls Try.prog 54 #[.pointer (some ⟨g, 0, none⟩)] w fun e w' => (∃ f : Pl.Fct, Pl.fv f = true ∧ e = .returned (fval f)) ∧ RD w' g (q + 3) ∧ w.grownBy w' (some g) := by
  have hlt := hr.lt
  have hp0 := Part.made w 37 3 1 #[.bool false, .int .i64 0, .int .i64 0] rfl
  go_enter Try.func54, Try.ntmps54
  go_wp2_with fail
  refine (pick_c g q 2 _ (hr.grow (by repeat (first | exact Grow.refl _ | assumption | refine Grow.alloc ?_ _ | refine Grow.drew ?_ | refine Grow.drewN ?_ _ | refine Grow.trans ?_ (by assumption) | refine Grow.below ?_ (by assumption) (by first | exact Nat.le_refl _ | omega)))) (by omega) (by omega) (by omega)).mono ?_
  rintro e w1 ⟨⟨v, hv, rfl⟩, hr1, hg1⟩
  go_wp2_with fail
  refine (l1Term_c g (q + 1) _ hr1 (by omega)).mono ?_
  rintro e w2 ⟨⟨a, ha, rfl⟩, hr2, hg2⟩
  go_wp2_with fail
  refine (l1Term_c g (q + 1 + 1) _ hr2 (by omega)).mono ?_
  rintro e w3 ⟨⟨b, hb, rfl⟩, hr3, hg3⟩
  have hp := ((hp0.kept hg1 (by intro h; injection h with h; omega)).kept hg2 (by intro h; injection h with h; omega)).kept hg3 (by intro h; injection h with h; omega)
  obtain ⟨x0, k0⟩ := hp.cell (o := 0) (by omega)
  obtain ⟨x1, k1⟩ := hp.cell (o := 1) (by omega)
  obtain ⟨x2, k2⟩ := hp.cell (o := 2) (by omega)
  have f0 := hp.frozen 0
  have f1 := hp.frozen 1
  have f2 := hp.frozen 2
  have hg : w.grownBy w3 (some g) := by_trans (by_trans (by_trans (by_alloc (World.grownBy.refl _ _) _) hg1) hg2) hg3
  clear hg1 hg2 hg3 hp0
  have hsz := Part.lt hp
  go_wp2_with fail
  refine bodyPost_ret (v := fval ⟨((v : Int) == 0), a, b⟩) (by simp [results, Try.results54, go_sem, k0, k1, k2]) rfl ⟨⟨_, (Pl.fv_iff _).2 ⟨ha, hb⟩, rfl⟩, ?_, ?_⟩
  · exact ((hr3.below (Below.setCell (Below.refl w.heap.size _) (Nat.le_refl _) _) hlt).below (Below.setCell (Below.refl w.heap.size _) (Nat.le_refl _) _) hlt).below (Below.setCell (Below.refl w.heap.size _) (Nat.le_refl _) _) hlt
  · exact by_below (by_below (by_below hg (Below.setCell (Below.refl w.heap.size _) (Nat.le_refl _) _) (Nat.le_refl _)) (Below.setCell (Below.refl w.heap.size _) (Nat.le_refl _) _) (Nat.le_refl _)) (Below.setCell (Below.refl w.heap.size _) (Nat.le_refl _) _) (Nat.le_refl _)

set_option maxHeartbeats 800000 in
theorem l1Facts_c (g q : Nat) (w : World) (hr : RD w g q) (hq : q ≤ 800000) :
    Calls Try.prog 53 #[.pointer (some ⟨g, 0, none⟩)] w fun e w' => (∃ (l : List Pl.Fct) (A : Option Addr) (c : Nat), l.length ≤ 8 ∧ (∀ f ∈ l, Pl.fv f = true) ∧ e = .returned (.slice A l.length c) ∧ OFacts w' w.heap.size (.slice A l.length c) l) ∧ RD w' g (q + 25) ∧ w.grownBy w' (some g) := by
  have hlt := hr.lt
  obtain ⟨i0, hi, hz0, hz1, hz2⟩ := info_parts fact_info
  go_enter Try.func53, Try.ntmps53
  go_wp2_with fail
  have h0 := lit_own (w.alloc (.cells #[] 37)) [3, 2, 5, 1, 0, 8] _ rfl (by simp)
  refine (num_c g q 6 (w.heap.size + 1) _ [3, 2, 5, 1, 0, 8] _ (hr.grow (by repeat (first | exact Grow.refl _ | assumption | refine Grow.alloc ?_ _ | refine Grow.drew ?_ | refine Grow.drewN ?_ _ | refine Grow.trans ?_ (by assumption) | refine Grow.below ?_ (by assumption) (by first | exact Nat.le_refl _ | omega)))) (by omega) (by simp) (by simp) (by simpa using h0) (by omega)).mono ?_
  rintro e w1 ⟨⟨v, hv, rfl⟩, hr1, hg1⟩
  have hv8 : 0 ≤ v ∧ v ≤ 8 := by simp at hv; omega
  obtain ⟨n, rfl⟩ := Int.eq_ofNat_of_zero_le hv8.1
  have hn8 : n ≤ 8 := by omega
  have hg : w.grownBy w1 (some g) := by_trans (by_alloc (by_alloc (World.grownBy.refl _ _) _) _) hg1
  have ho : OFacts w1 w.heap.size (.slice (some ⟨w.heap.size, 0, none⟩) 0 0) [] := own_empty ((hg1.block w.heap.size (by simp; omega) (by intro h; injection h with h; omega)).trans (heap_two _ _ _)) (Nat.le_refl _)
  clear hg1 h0 hv hv8
  go_wp2_with fail
  go_loopw [3, 4] (fun v i wr => ∃ k : Nat, k ≤ 8 ∧ i = .int .i64 k ∧ RD wr g (q + 1 + 3 * (8 - k)) ∧ w.grownBy wr (some g) ∧ ∃ (l : List Pl.Fct) (A : Option Addr) (c : Nat), v = .slice A l.length c ∧ OFacts wr w.heap.size (.slice A l.length c) l ∧ l.length + k ≤ 8 ∧ ∀ f ∈ l, Pl.fv f = true) (fun _ i _ => (intOf i).toNat)
  case atStart => exact ⟨n, hn8, rfl, hr1.more (by omega), hg, [], _, _, rfl, ho, by simpa using hn8, by simp⟩
  case round =>
    clear ho hg hr1
    obtain ⟨k, hk, rfl, hr1, hg, l, A, c, rfl, ho, hlk, hf⟩ := hrel
    have HF := Lib.hid hf
    clear hf
    by_cases hk0 : 0 < k
    · have hk1 : (0 : Int) < (k : Int) := by omega
      go_wp2_with fail
      refine (l1Fact_c g _ _ hr1 (by omega)).mono ?_
      rintro e w2 ⟨⟨f, hfv, rfl⟩, hr2, hg2⟩
      have ho2 := own_kept ho hg2 (fun k hk e => by have := own_blk ho k hk; injection e with e; omega)
      have hg3 := by_trans hg hg2
      have hsz := hg3.size
      clear hg hg2 ho
      go_wp2_with (at_builtin; go_must (refine wpList_append_src _ rfl _ _ 25 rfl w.heap.size 37 i0 _ 3 24 Try.underlying25 hi hz0 hz1 hz2 rfl (by omega) _ l.length (l.flatMap fcells) rfl (own_grow ho2 (by repeat (first | exact Grow.refl _ | assumption | refine Grow.alloc ?_ _ | refine Grow.drew ?_ | refine Grow.drewN ?_ _ | refine Grow.trans ?_ (by assumption) | refine Grow.below ?_ (by assumption) (by first | exact Nat.le_refl _ | omega)))) _ 1 1 (fcells f) rfl rfl (Cells.block (heap_alloc_new _ _)) (fcells_one f) (by unfold maxLen; omega) (by omega) (by simp; omega) (l.length + 1) rfl ((l ++ [f]).flatMap fcells) (by rw [List.flatMap_append]; simp) ?_; intro A3 c3 w3 ho3 _ _ hb3))
      go_roundw
      case rel =>
        refine ⟨k - 1, by omega, ?_, ((hr2.grow (by repeat (first | exact Grow.refl _ | assumption | refine Grow.alloc ?_ _ | refine Grow.drew ?_ | refine Grow.drewN ?_ _ | refine Grow.trans ?_ (by assumption) | refine Grow.below ?_ (by assumption) (by first | exact Nat.le_refl _ | omega)))).below hb3 hlt).more (by omega), by_below (by_alloc hg3 _) hb3 (Nat.le_refl _), l ++ [f], A3, c3, by simp, ?_, by simp; omega, ?_⟩
        · exact congrArg (Value.int .i64) (by omega)
        · show World.ownsRow _ _ _ _ (.slice _ (l ++ [f]).length _) (l ++ [f]).length _
          rw [List.length_append]; exact ho3
        · intro f' hf'
          rcases List.mem_append.1 hf' with h | h
          · exact HF.out f' h
          · rw [List.mem_singleton.1 h]; exact hfv
      case measure => simp [intOf]; omega
    · have hk1 : (k : Int) ≤ 0 := by omega
      go_wp2
      go_ret
      exact ⟨⟨l, A, c, by omega, HF.out, rfl, ho⟩, hr1.more (by omega), hg⟩

end Go.Proofs.Ytcpkmnlhenbnlaa
