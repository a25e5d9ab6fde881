/- The draws of assertions: what they return is well formed and lies in new memory. No conditions but the bounds on what the reader has picked. -/
import Derived.Test.YtifdefkkofngoaaDoorDrawP
import Derived.Test.YtifdefkkofngoaaDoorDrawG
import Derived.Test.YtifdefkkofngoaaDoorAs5
import Derived.Test.YtifdefkkofngoaaDoorBox3
namespace Go.Proofs.YtifdefkkofngoaaDoor
open Go.RowKit
set_option linter.unusedVariables false

theorem by_set1 {a w : World} {g : Nat} (h : a.grownBy w (some g)) {p : Addr} (hp : a.heap.size ≤ p.block) (u : Value) : a.grownBy (w.setCell p u) (some g) := by_below h (Below.setCell (Below.refl a.heap.size w) hp u) (Nat.le_refl _)
theorem rd_far {w : World} {g q : Nat} (h : RD w g q) {p : Addr} (hp : g < p.block) (u : Value) : RD (w.setCell p u) g q := h.below (Below.setCell (Below.refl (g + 1) w) (by show g + 1 ≤ p.block; omega) u) (by omega)
theorem Box3.frz {w : World} {g E : Nat} {x y z : Value} (h : Box3 w g E x y z) (o : Nat) : w.frozen? ⟨g, o, none⟩ = false := Part.frozen (sz := 3) (n := 1) (xs := []) ⟨_, h, rfl, rfl⟩ o
theorem nums6 {a : Int} (h : a ∈ ([1, 2, 3, 5, 4, 6] : List Int)) : Pl.tmB a = true := (Pl.tmB_iff a).2 (by simp at h; omega)
theorem nums7 {a : Int} (h : a ∈ ([2, 0, 3, 1, 5, 0, 6] : List Int)) : Pl.tmB a = true := (Pl.tmB_iff a).2 (by simp at h; omega)

set_option maxRecDepth 100000 in
set_option maxHeartbeats 1600000 in
theorem l3Point_c (g q : Nat) (w : World) (hr : RD w g q) (hq : q ≤ 900000) :
    Calls Tryd.prog 107 #[.pointer (some ⟨g, 0, none⟩)] w fun e w' => (∃ x : Pl.Atm, Pl.av x = true ∧ e = .returned (xval x)) ∧ RD w' g (q + 3) ∧ w.grownBy w' (some g) := by
  have hlt := hr.lt
  have y2 := Box3.new w 82 (.int .i64 0) (.int .i64 0) (.int .i64 0)
  go_enter Tryd.func107, Tryd.ntmps107
  go_wp2_with fail
  have h1 := lit_own (w.alloc (.cells #[.int .i64 0, .int .i64 0, .int .i64 0] 82)) [1, 2, 3, 5, 4, 6] _ rfl (by simp)
  refine (num_c g q 6 (w.heap.size + 1) _ [1, 2, 3, 5, 4, 6] _ (hr.grow (by repeat (first | exact Grow.refl _ | assumption | refine Grow.alloc ?_ _ | refine Grow.drew ?_ | refine Grow.drewN ?_ _ | refine Grow.trans ?_ (by assumption) | refine Grow.below ?_ (by assumption) (by first | exact Nat.le_refl _ | omega)))) (by omega) (by simp) (by simp) (by simpa using h1) (by omega)).mono ?_
  rintro e w1 ⟨⟨a, ha, rfl⟩, hr1, b1⟩
  have B1 : w.grownBy w1 (some g) := by_trans (by_alloc (by_alloc (World.grownBy.refl _ _) _) _) b1
  replace y2 := (y2.grow (show Grow _ ((w.alloc (.cells #[.int .i64 0, .int .i64 0, .int .i64 0] 82)).alloc _) from Grow.alloc (Grow.refl _) _)).kept b1 (by intro e; injection e with e; omega)
  clear h1 b1 hr
  go_wp2_with fail
  have h2 := lit_own w1 [2, 0, 3, 1, 5, 0, 6] _ rfl (by simp)
  have hlt1 := hr1.lt
  refine (num_c g (q + 1) 7 w1.heap.size _ [2, 0, 3, 1, 5, 0, 6] _ (hr1.grow (by repeat (first | exact Grow.refl _ | assumption | refine Grow.alloc ?_ _ | refine Grow.drew ?_ | refine Grow.drewN ?_ _ | refine Grow.trans ?_ (by assumption) | refine Grow.below ?_ (by assumption) (by first | exact Nat.le_refl _ | omega)))) (by omega) (by simp) (by simp) h2 (by omega)).mono ?_
  rintro e w2 ⟨⟨b, hb, rfl⟩, hr2, b2⟩
  have B2 : w.grownBy w2 (some g) := by_trans (by_alloc B1 _) b2
  replace y2 := (y2.grow (show Grow _ (w1.alloc _) from Grow.alloc (Grow.refl _) _)).kept b2 (by intro e; injection e with e; omega)
  have hs2 := B2.size
  have hv2 : w.heap.size < w2.heap.size := y2.lt
  clear h2 b2 hr1 B1
  go_wp2_with fail
  have y3 := Box3.new w2 82 (.int .i64 1) (.int .i64 a) (.int .i64 b)
  refine (pick_c g (q + 1 + 1) 2 _ (hr2.grow (by repeat (first | exact Grow.refl _ | assumption | refine Grow.alloc ?_ _ | refine Grow.drew ?_ | refine Grow.drewN ?_ _ | refine Grow.trans ?_ (by assumption) | refine Grow.below ?_ (by assumption) (by first | exact Nat.le_refl _ | omega)))) (by omega) (by omega) (by omega)).mono ?_
  rintro e w3 ⟨⟨v, hv, rfl⟩, hr3, b3⟩
  have B3 : w.grownBy w3 (some g) := by_trans (by_alloc B2 _) b3
  replace y3 := y3.kept b3 (by intro e; injection e with e; omega)
  replace y2 := (y2.grow (show Grow _ (w2.alloc _) from Grow.alloc (Grow.refl _) _)).kept b3 (by intro e; injection e with e; omega)
  have TA := nums6 ha
  have TB := nums7 hb
  clear b3 hr2 B2 ha hb
  obtain ⟨p0, p1, p2⟩ := y2.facts
  obtain ⟨r0, r1, r2⟩ := y3.facts
  have f0 := y3.frz 0
  have f1 := y2.frz 0
  have f2 := y2.frz 1
  have f3 := y2.frz 2
  by_cases hv0 : v = 0
  · have hb0 : ((v : Int) == 0) = true := by simp [hv0]
    clear hv0
    go_wp2_with fail
    refine bodyPost_ret (v := xval ⟨2, a, b⟩) (by simp [results, Tryd.results107, go_sem, p0, p1, p2]) rfl ⟨⟨_, (Pl.av_iff _).2 ⟨.inr rfl, TA, TB⟩, rfl⟩, ?_, ?_⟩
    · exact rd_far (rd_far (rd_far (rd_far hr3 (by show g < w2.heap.size; omega) _) hlt _) hlt _) hlt _
    · exact by_set1 (by_set1 (by_set1 (by_set1 B3 (by show w.heap.size ≤ w2.heap.size; omega) _) (Nat.le_refl _) _) (Nat.le_refl _) _) (Nat.le_refl _) _
  · have hb0 : ((v : Int) == 0) = false := by simp; omega
    clear hv0
    go_wp2_with fail
    refine bodyPost_ret (v := xval ⟨1, a, b⟩) (by simp [results, Tryd.results107, go_sem, p0, p1, p2]) rfl ⟨⟨_, (Pl.av_iff _).2 ⟨.inl rfl, TA, TB⟩, rfl⟩, ?_, ?_⟩
    · exact rd_far (rd_far (rd_far hr3 hlt _) hlt _) hlt _
    · exact by_set1 (by_set1 (by_set1 B3 (Nat.le_refl _) _) (Nat.le_refl _) _) (Nat.le_refl _) _

end Go.Proofs.YtifdefkkofngoaaDoor
