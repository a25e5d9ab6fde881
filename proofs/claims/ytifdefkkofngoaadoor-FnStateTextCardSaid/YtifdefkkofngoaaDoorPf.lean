/- Contracts of ParseFact, in the program and in the reference. Conditions: the text is shorter than the library's bound. -/
import Derived.Test.YtifdefkkofngoaaDoorLx
import Derived.Test.YtifdefkkofngoaaDoorBox3
namespace Go.Proofs.YtifdefkkofngoaaDoor
open Go.RowKit
set_option linter.unusedVariables false

theorem Box3.frz {w : World} {g E : Nat} {x y z : Value} (h : Box3 w g E x y z) (o : Nat) : w.frozen? ⟨g, o, none⟩ = false := Part.frozen (sz := 3) (n := 1) (xs := []) ⟨_, h, rfl, rfl⟩ o
def fres (r : Pl.Fct × Bool) : Value := .tuple #[fval r.1, .bool r.2]

theorem Box3.set0 {w : World} {g E : Nat} {x y z : Value} (h : Box3 w g E x y z) (u : Value) : Box3 (w.setCell ⟨g, 0, none⟩ u) g E u y z := by
  unfold Box3 at h ⊢; simp [World.setCell, Array.getElem?_modify, h]
theorem Box3.set1 {w : World} {g E : Nat} {x y z : Value} (h : Box3 w g E x y z) (u : Value) : Box3 (w.setCell ⟨g, 1, none⟩ u) g E x u z := by
  unfold Box3 at h ⊢; simp [World.setCell, Array.getElem?_modify, h]
theorem Box3.set2 {w : World} {g E : Nat} {x y z : Value} (h : Box3 w g E x y z) (u : Value) : Box3 (w.setCell ⟨g, 2, none⟩ u) g E x y u := by
  unfold Box3 at h ⊢; simp [World.setCell, Array.getElem?_modify, h]



set_option maxRecDepth 100000 in
set_option maxHeartbeats 3200000 in
theorem ParseFact_c (s : List UInt8) (w : World) (hs : s.length ≤ 2000000) (hT : TabN w) (hM : MaxL w) :
    Calls Tryd.prog 66 #[.string (Pl.str s)] w fun e w' => e = .returned (fres (Pl.pF s)) ∧ Grow w w' := by
  have y2 := Box3.new w 78 (.bool false) (.int .i64 0) (.int .i64 0)
  obtain ⟨l, r, fd, hcut⟩ : ∃ l r fd, Lib.cut s [61] = (l, r, fd) := ⟨_, _, _, rfl⟩
  have hll : l.length ≤ 2000000 := by
    have h1 : (Lib.cut s [61]).1.length ≤ s.length := by unfold Lib.cut; split <;> simp; omega
    rw [hcut] at h1; exact Nat.le_trans h1 hs
  have C0 := Lib.hid (show ∀ W, MaxL W → Calls Tryd.prog 51 #[.string (Pl.str s), .string ⟨#[61]⟩] W fun e w' => e = .returned (.tuple #[.string (Pl.str l), .string (Pl.str r), .bool fd]) ∧ Grow W w' from fun W k => by have := Cut_c s [61] ⟨#[61]⟩ rfl W hs k; rw [hcut] at this; exact this)
  have G0 : Grow w (w.alloc (.cells #[.bool false, .int .i64 0, .int .i64 0] 78)) := (by repeat (first | exact Grow.refl _ | assumption | refine Grow.alloc ?_ _ | refine Grow.drew ?_ | refine Grow.drewN ?_ _ | refine Grow.trans ?_ (by assumption) | refine Grow.below ?_ (by assumption) (by first | exact Nat.le_refl _ | omega)))
  go_enter Tryd.func66, Tryd.ntmps66
  go_wp2_with fail
  generalize w.alloc (.cells #[.bool false, .int .i64 0, .int .i64 0] 78) = w1 at *
  refine (C0.out _ (hM.grow G0)).mono ?_
  rintro e w2 ⟨rfl, g2⟩
  replace y2 := y2.grow g2
  have G := G0.trans g2
  clear g2 G0 C0
  have hlt := y2.lt
  cases fd with
  | false =>
    have HX := Lib.hid (show Pl.pF s = (Pl.noF, false) by unfold Pl.pF; rw [hcut]; rfl)
    obtain ⟨p0, p1, p2⟩ := y2.facts
    have f0 := y2.frz 0
    have f1 := y2.frz 1
    have f2 := y2.frz 2
    go_wp2_with fail
    refine bodyPost_ret (v := fres (Pl.noF, false)) (by simp [results, Tryd.results66, go_sem, p0, p1, p2, fres, Pl.noF]) rfl ⟨by rw [HX.out], ?_⟩
    exact ((G.setCell (Nat.le_refl _) _).setCell (Nat.le_refl _) _).setCell (Nat.le_refl _) _
  | true =>
    have HC := Lib.hid hcut
    have y7 := Box3.new w2 78 (.bool true) (.int .i64 0) (.int .i64 0)
    have q : Grow w2 (w2.alloc (.cells #[.bool true, .int .i64 0, .int .i64 0] 78)) := (by repeat (first | exact Grow.refl _ | assumption | refine Grow.alloc ?_ _ | refine Grow.drew ?_ | refine Grow.drewN ?_ _ | refine Grow.trans ?_ (by assumption) | refine Grow.below ?_ (by assumption) (by first | exact Nat.le_refl _ | omega)))
    replace y2 := y2.grow q
    replace G := G.trans q
    clear q hcut
    obtain ⟨l2, hl2⟩ : ∃ l2, l2 = Lib.trimSuffix l [33] := ⟨_, rfl⟩
    obtain ⟨mk, hmk⟩ : ∃ mk, mk = Lib.hasSuffix l [33] := ⟨_, rfl⟩
    have C1 := Lib.hid (show ∀ W, Calls Tryd.prog 99 #[.string (Pl.str l), .string ⟨#[33]⟩] W fun e w' => e = .returned (.tuple #[.string (Pl.str l2), .bool mk]) ∧ W = w' from fun W => by rw [hl2, hmk]; exact CutSuffix_c l [33] ⟨#[33]⟩ rfl W hll)
    have HP := Lib.hid (show Pl.pF s = Pl.pF2 (!mk) l2 r by unfold Pl.pF; rw [HC.out, if_pos rfl, hl2, hmk])
    have HL : mk = false → l2 = l := fun h => by rw [hl2]; unfold Lib.trimSuffix; rw [← hmk, h]; rfl
    clear hl2 hmk HC hll
    obtain ⟨t1, b1, ht1⟩ : ∃ t1 b1, Pl.pT l2 = (t1, b1) := ⟨_, _, rfl⟩
    obtain ⟨t2, b2, ht2⟩ : ∃ t2 b2, Pl.pT r = (t2, b2) := ⟨_, _, rfl⟩
    have D1 := Lib.hid (show ∀ W, TabN W → Calls Tryd.prog 100 #[.string (Pl.str l2)] W fun e w' => e = .returned (.tuple #[.int .i64 t1, .bool b1]) ∧ W = w' from fun W k => by have := ParseTerm_c l2 W k; rw [ht1] at this; exact this)
    have D2 := Lib.hid (show ∀ W, TabN W → Calls Tryd.prog 100 #[.string (Pl.str r)] W fun e w' => e = .returned (.tuple #[.int .i64 t2, .bool b2]) ∧ W = w' from fun W k => by have := ParseTerm_c r W k; rw [ht2] at this; exact this)
    have HQ := Lib.hid (show Pl.pF s = if b1 && b2 then (⟨!mk, t1, t2⟩, true) else (Pl.noF, false) by rw [HP.out]; unfold Pl.pF2; rw [ht1, ht2])
    clear ht1 ht2 HP
    have T2 : TabN (w2.alloc (.cells #[.bool true, .int .i64 0, .int .i64 0] 78)) := hT.grow G
    go_wp2_with fail
    generalize w2.alloc (.cells #[.bool true, .int .i64 0, .int .i64 0] 78) = w3 at *
    refine (C1.out _).mono ?_
    rintro e w4 ⟨rfl, rfl⟩
    obtain ⟨r0, r1, r2⟩ := y7.facts
    have e0 := y7.frz 0
    cases mk with
    | false =>
      obtain rfl := HL rfl
      obtain ⟨p0, p1, p2⟩ := y2.facts
      have f0 := y2.frz 0
      have f1 := y2.frz 1
      have f2 := y2.frz 2
      have hlw : w.heap.size ≤ w2.heap.size := by omega
      try go_wp2_with fail
      refine (D1.out _ (hT.grow G)).mono ?_
      rintro e w4 ⟨rfl, rfl⟩
      obtain ⟨r0, r1, r2⟩ := y7.facts
      have e1 := y7.frz 1
      cases b1 with
      | false =>
        have HX := Lib.hid (show Pl.pF s = (Pl.noF, false) from HQ.out.trans (by simp))
        go_wp2_with fail
        refine bodyPost_ret (v := fres (Pl.noF, false)) (by simp [results, Tryd.results66, go_sem, p0, p1, p2, fres, Pl.noF]) rfl ⟨by rw [HX.out], ?_⟩
        exact (((G.setCell (p := ⟨w2.heap.size, 1, none⟩) hlw (.int .i64 t1)).setCell (Nat.le_refl _) _).setCell (Nat.le_refl _) _).setCell (Nat.le_refl _) _
      | true =>
        go_wp2_with fail
        replace y7 := y7.set1 (.int .i64 t1)
        replace y2 := y2.far (p := ⟨w2.heap.size, 1, none⟩) (by show w.heap.size ≠ w2.heap.size; omega) (.int .i64 t1)
        replace G := G.setCell (p := ⟨w2.heap.size, 1, none⟩) hlw (.int .i64 t1)
        clear r0 r1 r2 e1 p0 p1 p2 f0 f1 f2 D1
        generalize w3.setCell ⟨w2.heap.size, 1, none⟩ (.int .i64 t1) = w8 at *
        refine (D2.out _ (hT.grow G)).mono ?_
        rintro e w4 ⟨rfl, rfl⟩
        obtain ⟨r0, r1, r2⟩ := y7.facts
        have e2 := y7.frz 2
        obtain ⟨p0, p1, p2⟩ := y2.facts
        have f0 := y2.frz 0
        have f1 := y2.frz 1
        have f2 := y2.frz 2
        cases b2 with
        | false =>
          have HX := Lib.hid (show Pl.pF s = (Pl.noF, false) from HQ.out.trans (by simp))
          go_wp2_with fail
          refine bodyPost_ret (v := fres (Pl.noF, false)) (by simp [results, Tryd.results66, go_sem, p0, p1, p2, fres, Pl.noF]) rfl ⟨by rw [HX.out], ?_⟩
          exact (((G.setCell (p := ⟨w2.heap.size, 2, none⟩) hlw (.int .i64 t2)).setCell (Nat.le_refl _) _).setCell (Nat.le_refl _) _).setCell (Nat.le_refl _) _
        | true =>
          have HX := Lib.hid (show Pl.pF s = (⟨true, t1, t2⟩, true) from HQ.out.trans (by simp))
          go_wp2_with fail
          refine bodyPost_ret (v := fres (⟨true, t1, t2⟩, true)) (by simp [results, Tryd.results66, go_sem, p0, p1, p2, fres]) rfl ⟨by rw [HX.out], ?_⟩
          exact (((G.setCell (p := ⟨w2.heap.size, 2, none⟩) hlw (.int .i64 t2)).setCell (Nat.le_refl _) _).setCell (Nat.le_refl _) _).setCell (Nat.le_refl _) _
    | true =>
      clear HL
      go_wp2_with fail
      replace y7 := y7.set0 (.bool false)
      replace y2 := y2.far (p := ⟨w2.heap.size, 0, none⟩) (by show w.heap.size ≠ w2.heap.size; omega) (.bool false)
      replace G := G.setCell (p := ⟨w2.heap.size, 0, none⟩) (by show w.heap.size ≤ w2.heap.size; omega) (.bool false)
      clear r0 r1 r2 e0 T2
      generalize w3.setCell ⟨w2.heap.size, 0, none⟩ (.bool false) = w5 at *
      have hzz := hlt
      obtain ⟨p0, p1, p2⟩ := y2.facts
      have f0 := y2.frz 0
      have f1 := y2.frz 1
      have f2 := y2.frz 2
      have hlw : w.heap.size ≤ w2.heap.size := by omega
      try go_wp2_with fail
      refine (D1.out _ (hT.grow G)).mono ?_
      rintro e w4 ⟨rfl, rfl⟩
      obtain ⟨r0, r1, r2⟩ := y7.facts
      have e1 := y7.frz 1
      cases b1 with
      | false =>
        have HX := Lib.hid (show Pl.pF s = (Pl.noF, false) from HQ.out.trans (by simp))
        go_wp2_with fail
        refine bodyPost_ret (v := fres (Pl.noF, false)) (by simp [results, Tryd.results66, go_sem, p0, p1, p2, fres, Pl.noF]) rfl ⟨by rw [HX.out], ?_⟩
        exact (((G.setCell (p := ⟨w2.heap.size, 1, none⟩) hlw (.int .i64 t1)).setCell (Nat.le_refl _) _).setCell (Nat.le_refl _) _).setCell (Nat.le_refl _) _
      | true =>
        go_wp2_with fail
        replace y7 := y7.set1 (.int .i64 t1)
        replace y2 := y2.far (p := ⟨w2.heap.size, 1, none⟩) (by show w.heap.size ≠ w2.heap.size; omega) (.int .i64 t1)
        replace G := G.setCell (p := ⟨w2.heap.size, 1, none⟩) hlw (.int .i64 t1)
        clear r0 r1 r2 e1 p0 p1 p2 f0 f1 f2 D1
        generalize w5.setCell ⟨w2.heap.size, 1, none⟩ (.int .i64 t1) = w8 at *
        refine (D2.out _ (hT.grow G)).mono ?_
        rintro e w4 ⟨rfl, rfl⟩
        obtain ⟨r0, r1, r2⟩ := y7.facts
        have e2 := y7.frz 2
        obtain ⟨p0, p1, p2⟩ := y2.facts
        have f0 := y2.frz 0
        have f1 := y2.frz 1
        have f2 := y2.frz 2
        cases b2 with
        | false =>
          have HX := Lib.hid (show Pl.pF s = (Pl.noF, false) from HQ.out.trans (by simp))
          go_wp2_with fail
          refine bodyPost_ret (v := fres (Pl.noF, false)) (by simp [results, Tryd.results66, go_sem, p0, p1, p2, fres, Pl.noF]) rfl ⟨by rw [HX.out], ?_⟩
          exact (((G.setCell (p := ⟨w2.heap.size, 2, none⟩) hlw (.int .i64 t2)).setCell (Nat.le_refl _) _).setCell (Nat.le_refl _) _).setCell (Nat.le_refl _) _
        | true =>
          have HX := Lib.hid (show Pl.pF s = (⟨false, t1, t2⟩, true) from HQ.out.trans (by simp))
          go_wp2_with fail
          refine bodyPost_ret (v := fres (⟨false, t1, t2⟩, true)) (by simp [results, Tryd.results66, go_sem, p0, p1, p2, fres]) rfl ⟨by rw [HX.out], ?_⟩
          exact (((G.setCell (p := ⟨w2.heap.size, 2, none⟩) hlw (.int .i64 t2)).setCell (Nat.le_refl _) _).setCell (Nat.le_refl _) _).setCell (Nat.le_refl _) _

end Go.Proofs.YtifdefkkofngoaaDoor
