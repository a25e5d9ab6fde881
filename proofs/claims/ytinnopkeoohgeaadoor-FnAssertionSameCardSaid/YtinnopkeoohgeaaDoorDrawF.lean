/- The draws of facts: what they return is well formed and lies in new memory. No conditions but the bounds on what the reader has picked. -/
import Derived.Test.YtinnopkeoohgeaaDoorRd
namespace Go.Proofs.YtinnopkeoohgeaaDoor
open Go.RowKit
set_option linter.unusedVariables false

theorem l18Open_c (A : Option Addr) (n c : Nat) (w : World) (hb : Bytes w A n) (hn : n ≤ 9223372036854775807) (hc : n ≤ c) :
    Calls Tryd.prog 63 #[.slice A n c] w fun e w' => ∃ g, e = .returned (.pointer (some ⟨g, 0, none⟩)) ∧ RD w' g 0 ∧ w.heap.size ≤ g ∧ Grow w w' := by
  by_cases h : n ≤ 2000
  · have h1 : (n : Int) ≤ 2000 := by omega
    go_enter Tryd.func63, Tryd.ntmps63
    go_wp2
    go_ret
    exact ⟨w.heap.size, rfl, ⟨A, n, c, 0, heap_alloc_new w _, h, hb.bound.below (show Grow w _ from (by repeat (first | exact Grow.refl _ | assumption | refine Grow.alloc ?_ _ | refine Grow.drew ?_ | refine Grow.drewN ?_ _ | refine Grow.trans ?_ (by assumption) | refine Grow.below ?_ (by assumption) (by first | exact Nat.le_refl _ | omega)))) (Nat.le_refl _), Nat.le_refl _⟩, Nat.le_refl _, (by repeat (first | exact Grow.refl _ | assumption | refine Grow.alloc ?_ _ | refine Grow.drew ?_ | refine Grow.drewN ?_ _ | refine Grow.trans ?_ (by assumption) | refine Grow.below ?_ (by assumption) (by first | exact Nat.le_refl _ | omega)))⟩
  · have h1 : (2000 : Int) < (n : Int) := by omega
    have h2 : (2000 : Int) ≤ (c : Int) := by omega
    obtain ⟨b, off, rfl, hcl⟩ := hb (by omega)
    have hb2 : Bytes w (some ⟨b, off, none⟩) 2000 := fun _ => ⟨b, off, rfl, fun i hi => hcl i (by omega)⟩
    clear hb hcl
    go_enter Tryd.func63, Tryd.ntmps63
    go_wp2
    go_ret
    exact ⟨w.heap.size, rfl, ⟨_, 2000, c, 0, heap_alloc_new w _, by omega, hb2.bound.below (show Grow w _ from (by repeat (first | exact Grow.refl _ | assumption | refine Grow.alloc ?_ _ | refine Grow.drew ?_ | refine Grow.drewN ?_ _ | refine Grow.trans ?_ (by assumption) | refine Grow.below ?_ (by assumption) (by first | exact Nat.le_refl _ | omega)))) (Nat.le_refl _), Nat.le_refl _⟩, Nat.le_refl _, (by repeat (first | exact Grow.refl _ | assumption | refine Grow.alloc ?_ _ | refine Grow.drew ?_ | refine Grow.drewN ?_ _ | refine Grow.trans ?_ (by assumption) | refine Grow.below ?_ (by assumption) (by first | exact Nat.le_refl _ | omega)))⟩

theorem lit_own (w : World) (l : List Int) (cs : Array Value) (hcs : cs = (l.map (Value.int .i64)).toArray) (hl : l.length ≤ 100) : OInts (w.alloc (.cells cs 3)) w.heap.size (.slice (some ⟨w.heap.size, 0, none⟩) l.length l.length) l := by
  subst hcs
  have h := World.ownsRow_lit (e := 3) (size := 1) w (l.map (Value.int .i64)).toArray l.length (Nat.le_refl _) (by unfold maxLen; omega) (by simp)
  simpa using h

theorem l1Term_c (g q : Nat) (w : World) (hr : RD w g q) (hq : q ≤ 999000) :
    Calls Tryd.prog 116 #[.pointer (some ⟨g, 0, none⟩)] w fun e w' => (∃ v : Int, (0 ≤ v ∧ v ≤ 8) ∧ e = .returned (.int .i64 v)) ∧ RD w' g (q + 1) ∧ w.grownBy w' (some g) := by
  go_enter Tryd.func116, Tryd.ntmps116
  go_wp2_with fail
  refine (num_c g q 9 w.heap.size _ [1, 2, 3, 0, 5, 4, 6, 7, 8] _ (hr.grow (by repeat (first | exact Grow.refl _ | assumption | refine Grow.alloc ?_ _ | refine Grow.drew ?_ | refine Grow.drewN ?_ _ | refine Grow.trans ?_ (by assumption) | refine Grow.below ?_ (by assumption) (by first | exact Nat.le_refl _ | omega)))) (by omega) (by simp) (by simp) (lit_own w [1, 2, 3, 0, 5, 4, 6, 7, 8] _ rfl (by simp)) hr.lt).mono ?_
  rintro e w1 ⟨⟨v, hv, rfl⟩, hr1, hg1⟩
  go_wp2_with fail
  go_ret
  exact ⟨⟨v, by simp at hv; omega, rfl⟩, hr1, by_trans (by_alloc (World.grownBy.refl _ _) _) hg1⟩

theorem l1Fact_c (g q : Nat) (w : World) (hr : RD w g q) (hq : q ≤ 990000) :
    Calls Tryd.prog 65 #[.pointer (some ⟨g, 0, none⟩)] w fun e w' => (∃ f : Pl.Fct, Pl.fv f = true ∧ e = .returned (fval f)) ∧ RD w' g (q + 3) ∧ w.grownBy w' (some g) := by
  have hlt := hr.lt
  have hp0 := Part.made w 23 3 1 #[.bool false, .int .i64 0, .int .i64 0] rfl
  go_enter Tryd.func65, Tryd.ntmps65
  go_wp2_with fail
  refine (pick_c g q 2 _ (hr.grow (by repeat (first | exact Grow.refl _ | assumption | refine Grow.alloc ?_ _ | refine Grow.drew ?_ | refine Grow.drewN ?_ _ | refine Grow.trans ?_ (by assumption) | refine Grow.below ?_ (by assumption) (by first | exact Nat.le_refl _ | omega)))) (by omega) (by omega) (by omega)).mono ?_
  rintro e w1 ⟨⟨v, hv, rfl⟩, hr1, hg1⟩
  go_wp2_with fail
  refine (l1Term_c g (q + 1) _ hr1 (by omega)).mono ?_
  rintro e w2 ⟨⟨a, ha, rfl⟩, hr2, hg2⟩
  go_wp2_with fail
  refine (l1Term_c g (q + 1 + 1) _ hr2 (by omega)).mono ?_
  rintro e w3 ⟨⟨b, hb, rfl⟩, hr3, hg3⟩
  have hp := ((hp0.kept hg1 (by intro h; injection h with h; omega)).kept hg2 (by intro h; injection h with h; omega)).kept hg3 (by intro h; injection h with h; omega)
  obtain ⟨x0, k0⟩ := hp.cell (o := 0) (by omega)
  obtain ⟨x1, k1⟩ := hp.cell (o := 1) (by omega)
  obtain ⟨x2, k2⟩ := hp.cell (o := 2) (by omega)
  have f0 := hp.frozen 0
  have f1 := hp.frozen 1
  have f2 := hp.frozen 2
  have hg : w.grownBy w3 (some g) := by_trans (by_trans (by_trans (by_alloc (World.grownBy.refl _ _) _) hg1) hg2) hg3
  clear hg1 hg2 hg3 hp0
  have hsz := Part.lt hp
  go_wp2_with fail
  refine bodyPost_ret (v := fval ⟨((v : Int) == 0), a, b⟩) (by simp [results, Tryd.results65, go_sem, k0, k1, k2]) rfl ⟨⟨_, (Pl.fv_iff _).2 ⟨ha, hb⟩, rfl⟩, ?_, ?_⟩
  · exact ((hr3.below (Below.setCell (Below.refl w.heap.size _) (Nat.le_refl _) _) hlt).below (Below.setCell (Below.refl w.heap.size _) (Nat.le_refl _) _) hlt).below (Below.setCell (Below.refl w.heap.size _) (Nat.le_refl _) _) hlt
  · exact by_below (by_below (by_below hg (Below.setCell (Below.refl w.heap.size _) (Nat.le_refl _) _) (Nat.le_refl _)) (Below.setCell (Below.refl w.heap.size _) (Nat.le_refl _) _) (Nat.le_refl _)) (Below.setCell (Below.refl w.heap.size _) (Nat.le_refl _) _) (Nat.le_refl _)

end Go.Proofs.YtinnopkeoohgeaaDoor
