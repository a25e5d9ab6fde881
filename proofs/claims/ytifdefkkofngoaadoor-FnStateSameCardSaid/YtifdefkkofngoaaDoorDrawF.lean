/- The draws of facts: what they return is well formed and lies in new memory. No conditions but the bounds on what the reader has picked. -/
import Derived.Test.YtifdefkkofngoaaDoorRd
namespace Go.Proofs.YtifdefkkofngoaaDoor
open Go.RowKit
set_option linter.unusedVariables false

theorem l18Open_c (A : Option Addr) (n c : Nat) (w : World) (hb : Bytes w A n) (hn : n ≤ 9223372036854775807) (hc : n ≤ c) :
    Calls Tryd.prog 58 #[.slice A n c] w fun e w' => ∃ g, e = .returned (.pointer (some ⟨g, 0, none⟩)) ∧ RD w' g 0 ∧ w.heap.size ≤ g ∧ Grow w w' := by
  by_cases h : n ≤ 2000
  · have h1 : (n : Int) ≤ 2000 := by omega
    go_enter Tryd.func58, Tryd.ntmps58
    go_wp2
    go_ret
    exact ⟨w.heap.size, rfl, ⟨A, n, c, 0, heap_alloc_new w _, h, hb.bound.below (show Grow w _ from (by repeat (first | exact Grow.refl _ | assumption | refine Grow.alloc ?_ _ | refine Grow.drew ?_ | refine Grow.drewN ?_ _ | refine Grow.trans ?_ (by assumption) | refine Grow.below ?_ (by assumption) (by first | exact Nat.le_refl _ | omega)))) (Nat.le_refl _), Nat.le_refl _⟩, Nat.le_refl _, (by repeat (first | exact Grow.refl _ | assumption | refine Grow.alloc ?_ _ | refine Grow.drew ?_ | refine Grow.drewN ?_ _ | refine Grow.trans ?_ (by assumption) | refine Grow.below ?_ (by assumption) (by first | exact Nat.le_refl _ | omega)))⟩
  · have h1 : (2000 : Int) < (n : Int) := by omega
    have h2 : (2000 : Int) ≤ (c : Int) := by omega
    obtain ⟨b, off, rfl, hcl⟩ := hb (by omega)
    have hb2 : Bytes w (some ⟨b, off, none⟩) 2000 := fun _ => ⟨b, off, rfl, fun i hi => hcl i (by omega)⟩
    clear hb hcl
    go_enter Tryd.func58, Tryd.ntmps58
    go_wp2
    go_ret
    exact ⟨w.heap.size, rfl, ⟨_, 2000, c, 0, heap_alloc_new w _, by omega, hb2.bound.below (show Grow w _ from (by repeat (first | exact Grow.refl _ | assumption | refine Grow.alloc ?_ _ | refine Grow.drew ?_ | refine Grow.drewN ?_ _ | refine Grow.trans ?_ (by assumption) | refine Grow.below ?_ (by assumption) (by first | exact Nat.le_refl _ | omega)))) (Nat.le_refl _), Nat.le_refl _⟩, Nat.le_refl _, (by repeat (first | exact Grow.refl _ | assumption | refine Grow.alloc ?_ _ | refine Grow.drew ?_ | refine Grow.drewN ?_ _ | refine Grow.trans ?_ (by assumption) | refine Grow.below ?_ (by assumption) (by first | exact Nat.le_refl _ | omega)))⟩

theorem lit_own (w : World) (l : List Int) (cs : Array Value) (hcs : cs = (l.map (Value.int .i64)).toArray) (hl : l.length ≤ 100) : OInts (w.alloc (.cells cs 3)) w.heap.size (.slice (some ⟨w.heap.size, 0, none⟩) l.length l.length) l := by
  subst hcs
  have h := World.ownsRow_lit (e := 3) (size := 1) w (l.map (Value.int .i64)).toArray l.length (Nat.le_refl _) (by unfold maxLen; omega) (by simp)
  simpa using h

end Go.Proofs.YtifdefkkofngoaaDoor
