/- The draws of a fact and of the text of one. No conditions. -/
import Derived.Test.YtinnopkeoohgeaaDoorBend
namespace Go.Proofs.YtinnopkeoohgeaaDoor
open Go.RowKit
set_option linter.unusedVariables false

theorem rd_far' {w : World} {g q : Nat} (h : RD w g q) {p : Addr} (hp : g < p.block) (u : Value) : RD (w.setCell p u) g q := h.below (Below.setCell (Below.refl (g + 1) w) (by show g + 1 ≤ p.block; omega) u) (by omega)

set_option maxRecDepth 100000 in
set_option maxHeartbeats 1600000 in
theorem DrawFactValid_c (A : Option Addr) (n c : Nat) (w : World) (hb : Bytes w A n) (hn : n ≤ 9223372036854775807) (hc : n ≤ c) :
    Calls Tryd.prog 58 #[.slice A n c] w fun e w' => (∃ f : Pl.Fct, e = .returned (fval f)) ∧ Grow w w' := by
  have y2 := Box3.new w 23 (.bool false) (.int .i64 0) (.int .i64 0)
  have G0 : Grow w (w.alloc (.cells #[.bool false, .int .i64 0, .int .i64 0] 23)) := (by repeat (first | exact Grow.refl _ | assumption | refine Grow.alloc ?_ _ | refine Grow.drew ?_ | refine Grow.drewN ?_ _ | refine Grow.trans ?_ (by assumption) | refine Grow.below ?_ (by assumption) (by first | exact Nat.le_refl _ | omega)))
  have hz := Lib.hid (show (w.alloc (.cells #[.bool false, .int .i64 0, .int .i64 0] 23)).heap.size = w.heap.size + 1 by simp)
  go_enter Tryd.func58, Tryd.ntmps58
  go_wp2_with fail
  generalize w.alloc (.cells #[.bool false, .int .i64 0, .int .i64 0] 23) = w1 at *
  refine (l18Open_c A n c _ (hb.grow G0) hn hc).mono ?_
  rintro e w2 ⟨g, rfl, hr, hgl, g2⟩
  replace y2 := y2.grow g2
  have G := G0.trans g2
  have hs1 := y2.lt
  have hgw : w.heap.size < g := by have := hz.out; omega
  clear g2 G0 hb
  go_wp2_with fail
  refine (l1Fact_c g 0 _ hr (by omega)).mono ?_
  rintro e w3 ⟨⟨f, hf, rfl⟩, hr3, b3⟩
  have q : Grow w3 (w3.alloc (.cells #[.bool f.e, .int .i64 f.a, .int .i64 f.b] 23)) := (by repeat (first | exact Grow.refl _ | assumption | refine Grow.alloc ?_ _ | refine Grow.drew ?_ | refine Grow.drewN ?_ _ | refine Grow.trans ?_ (by assumption) | refine Grow.below ?_ (by assumption) (by first | exact Nat.le_refl _ | omega)))
  have y4 := Box3.new w3 23 (.bool f.e) (.int .i64 f.a) (.int .i64 f.b)
  replace y2 := (y2.kept b3 (by intro e; injection e with e; omega)).grow q
  replace G := (G.grown b3 (fun k hk => by injection hk with hk; omega)).trans q
  have hr4 := hr3.grow q
  have hs3 := b3.size
  have hg3 := hr.lt
  clear b3 q hr hr3
  go_wp2_with fail
  generalize w3.alloc (.cells #[.bool f.e, .int .i64 f.a, .int .i64 f.b] 23) = w4 at *
  refine (pick_c g (0 + 3) 8 _ hr4 (by omega) (by omega) (by omega)).mono ?_
  rintro e w5 ⟨⟨p, hp, rfl⟩, hr5, b5⟩
  replace y2 := y2.kept b5 (by intro e; injection e with e; omega)
  replace y4 := y4.kept b5 (by intro e; injection e with e; omega)
  replace G := G.grown b5 (fun k hk => by injection hk with hk; omega)
  clear b5 hr4
  by_cases hp0 : p = 0
  · have hb0 : ((p : Int) == 0) = true := by simp [hp0]
    clear hp0
    go_wp2_with fail
    have hlit := lit_own w5 [-1, 9, 9223372036854775807] _ rfl (by simp)
    have hg5 := hr5.lt
    refine (num_c g (0 + 3 + 1) 3 w5.heap.size _ [-1, 9, 9223372036854775807] _ (hr5.grow (by repeat (first | exact Grow.refl _ | assumption | refine Grow.alloc ?_ _ | refine Grow.drew ?_ | refine Grow.drewN ?_ _ | refine Grow.trans ?_ (by assumption) | refine Grow.below ?_ (by assumption) (by first | exact Nat.le_refl _ | omega)))) (by omega) (by simp) (by simp) hlit (by omega)).mono ?_
    rintro e w6 ⟨⟨z, hz9, rfl⟩, hr6, b6⟩
    have q : Grow w5 (w5.alloc (.cells #[.int .i64 (-1), .int .i64 9, .int .i64 9223372036854775807] 3)) := (by repeat (first | exact Grow.refl _ | assumption | refine Grow.alloc ?_ _ | refine Grow.drew ?_ | refine Grow.drewN ?_ _ | refine Grow.trans ?_ (by assumption) | refine Grow.below ?_ (by assumption) (by first | exact Nat.le_refl _ | omega)))
    replace y2 := (y2.grow q).kept b6 (by intro e; injection e with e; omega)
    replace y4 := (y4.grow q).kept b6 (by intro e; injection e with e; omega)
    replace G := (G.trans q).grown b6 (fun k hk => by injection hk with hk; omega)
    clear q b6 hlit hz9
    obtain ⟨p0, p1, p2⟩ := y2.facts
    have f0 := y2.frz 0
    have f1 := y2.frz 1
    have f2 := y2.frz 2
    obtain ⟨r0, r1, r2⟩ := y4.facts
    have e2 := y4.frz 2
    have hlw : w.heap.size ≤ w3.heap.size := by omega
    go_wp2_with fail
    refine bodyPost_ret (v := fval ⟨f.e, f.a, z⟩) (by simp [results, Tryd.results58, go_sem, p0, p1, p2]) rfl ⟨⟨_, rfl⟩, ?_⟩
    exact (((G.setCell (p := ⟨w3.heap.size, 2, none⟩) hlw (.int .i64 z)).setCell (Nat.le_refl _) _).setCell (Nat.le_refl _) _).setCell (Nat.le_refl _) _
  · have hb0 : ((p : Int) == 0) = false := by simp; omega
    clear hp0
    obtain ⟨p0, p1, p2⟩ := y2.facts
    have f0 := y2.frz 0
    have f1 := y2.frz 1
    have f2 := y2.frz 2
    obtain ⟨r0, r1, r2⟩ := y4.facts
    go_wp2_with fail
    refine bodyPost_ret (v := fval f) (by simp [results, Tryd.results58, go_sem, p0, p1, p2]) rfl ⟨⟨_, rfl⟩, ?_⟩
    exact ((G.setCell (Nat.le_refl _) _).setCell (Nat.le_refl _) _).setCell (Nat.le_refl _) _

set_option maxRecDepth 100000 in
set_option maxHeartbeats 1600000 in
theorem DrawFormatFact_c (A : Option Addr) (n c : Nat) (w : World) (hb : Bytes w A n) (hn : n ≤ 9223372036854775807) (hc : n ≤ c) :
    Calls Tryd.prog 16 #[.slice A n c] w fun e w' => (∃ f : Pl.Fct, e = .returned (fval f)) ∧ Grow w w' := by
  have y2 := Box3.new w 23 (.bool false) (.int .i64 0) (.int .i64 0)
  have G0 : Grow w (w.alloc (.cells #[.bool false, .int .i64 0, .int .i64 0] 23)) := (by repeat (first | exact Grow.refl _ | assumption | refine Grow.alloc ?_ _ | refine Grow.drew ?_ | refine Grow.drewN ?_ _ | refine Grow.trans ?_ (by assumption) | refine Grow.below ?_ (by assumption) (by first | exact Nat.le_refl _ | omega)))
  go_enter Tryd.func16, Tryd.ntmps16
  go_wp2_with fail
  generalize w.alloc (.cells #[.bool false, .int .i64 0, .int .i64 0] 23) = w1 at *
  refine (DrawFactValid_c A n c _ (hb.grow G0) hn hc).mono ?_
  rintro e w2 ⟨⟨f, rfl⟩, g2⟩
  replace y2 := y2.grow g2
  obtain ⟨p0, p1, p2⟩ := y2.facts
  have f0 := y2.frz 0
  have f1 := y2.frz 1
  have f2 := y2.frz 2
  go_wp2_with fail
  refine bodyPost_ret (v := fval f) (by simp [results, Tryd.results16, go_sem, p0, p1, p2]) rfl ⟨⟨_, rfl⟩, ?_⟩
  exact (((G0.trans g2).setCell (Nat.le_refl _) _).setCell (Nat.le_refl _) _).setCell (Nat.le_refl _) _

set_option maxRecDepth 100000 in
set_option maxHeartbeats 1600000 in
theorem DrawParseFact_c (A : Option Addr) (n c : Nat) (w : World) (hb : Bytes w A n) (hn : n ≤ 9223372036854775807) (hc : n ≤ c) :
    Calls Tryd.prog 21 #[.slice A n c] w fun e w' => (∃ t : List UInt8, t.length ≤ 100 ∧ e = .returned (.string (Pl.str t))) ∧ Grow w w' := by
  go_enter Tryd.func21, Tryd.ntmps21
  go_wp2_with fail
  refine (l18Open_c A n c _ hb hn hc).mono ?_
  rintro e w1 ⟨g, rfl, hr, hgl, g1⟩
  go_wp2_with fail
  refine (l1Fact_c g 0 _ hr (by omega)).mono ?_
  rintro e w2 ⟨⟨f, hf, rfl⟩, hr2, b2⟩
  have G := g1.grown b2 (fun k hk => by injection hk with hk; omega)
  clear b2 g1 hr
  go_wp2_with fail
  refine (l1Text_c f _ hf).mono ?_
  rintro e w3 ⟨rfl, g3⟩
  have hg3 := hr2.lt
  have hs3 := g3.le
  have hl := Pl.txF_len f
  go_wp2_with fail
  have hlit := lit_texts w3 [[], [61], [33], [97], [110, 105, 108], [32]] _ rfl (by simp)
  refine (l1Bend_c g (0 + 3) w3.heap.size 6 _ [[], [61], [33], [97], [110, 105, 108], [32]] (Pl.txF f) _ ((hr2.grow g3).grow (by repeat (first | exact Grow.refl _ | assumption | refine Grow.alloc ?_ _ | refine Grow.drew ?_ | refine Grow.drewN ?_ _ | refine Grow.trans ?_ (by assumption) | refine Grow.below ?_ (by assumption) (by first | exact Nat.le_refl _ | omega)))) (by omega) (by simp) (by simp) hlit (by omega) (by simp) (by omega)).mono ?_
  rintro e w4 ⟨⟨t, ht, rfl⟩, hr4, b4⟩
  go_wp2_with fail
  go_ret
  exact ⟨⟨t, by omega, rfl⟩, Grow.grown (G.trans (g3.trans (by repeat (first | exact Grow.refl _ | assumption | refine Grow.alloc ?_ _ | refine Grow.drew ?_ | refine Grow.drewN ?_ _ | refine Grow.trans ?_ (by assumption) | refine Grow.below ?_ (by assumption) (by first | exact Nat.le_refl _ | omega))))) b4 (fun k hk => by injection hk with hk; omega)⟩

end Go.Proofs.YtinnopkeoohgeaaDoor
