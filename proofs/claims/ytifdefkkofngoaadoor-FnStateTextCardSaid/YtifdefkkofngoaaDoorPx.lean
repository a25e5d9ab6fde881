/- Contract of the program's parseAtom. Conditions: the text is shorter than the library's bound; the table of names stands. -/
import Derived.Test.YtifdefkkofngoaaDoorPf
import Derived.Test.YtifdefkkofngoaaDoorPlainAll
import Derived.Test.YtifdefkkofngoaaDoorAtm
namespace Go.Proofs.YtifdefkkofngoaaDoor
open Go.RowKit
set_option linter.unusedVariables false

def xres (r : Pl.Atm × Bool) : Value := .tuple #[xval r.1, .bool r.2]
theorem cut_len (s sep : List UInt8) : (Lib.cut s sep).1.length ≤ s.length := by unfold Lib.cut; split <;> simp; omega
theorem cut_len2 (s sep : List UInt8) : (Lib.cut s sep).2.1.length ≤ s.length := by unfold Lib.cut; split <;> simp


set_option maxRecDepth 100000 in
set_option maxHeartbeats 3200000 in
theorem parseAtom_c (s : List UInt8) (w : World) (hs : s.length ≤ 2000000) (hT : TabN w) (hM : MaxL w) :
    Calls Tryd.prog 67 #[.string (Pl.str s)] w fun e w' => e = .returned (xres (Pl.pX s)) ∧ Grow w w' := by
  have y2 := (Box3.new w 82 (.int .i64 0) (.int .i64 0) (.int .i64 0)).grow (show Grow _ ((w.alloc (.cells #[.int .i64 0, .int .i64 0, .int .i64 0] 82)).alloc (.cells #[.int .i64 1, .int .i64 0, .int .i64 0] 82)) from Grow.alloc (Grow.refl _) _)
  have y7 := Box3.new (w.alloc (.cells #[.int .i64 0, .int .i64 0, .int .i64 0] 82)) 82 (.int .i64 1) (.int .i64 0) (.int .i64 0)
  simp only [World.size_alloc] at y7
  have G0 : Grow w ((w.alloc (.cells #[.int .i64 0, .int .i64 0, .int .i64 0] 82)).alloc (.cells #[.int .i64 1, .int .i64 0, .int .i64 0] 82)) := (by repeat (first | exact Grow.refl _ | assumption | refine Grow.alloc ?_ _ | refine Grow.drew ?_ | refine Grow.drewN ?_ _ | refine Grow.trans ?_ (by assumption) | refine Grow.below ?_ (by assumption) (by first | exact Nat.le_refl _ | omega)))
  obtain ⟨l, r, fd, hcut⟩ : ∃ l r fd, Lib.cut s [62] = (l, r, fd) := ⟨_, _, _, rfl⟩
  have C0 := Lib.hid (show ∀ W, MaxL W → Calls Tryd.prog 51 #[.string (Pl.str s), .string ⟨#[62]⟩] W fun e w' => e = .returned (.tuple #[.string (Pl.str l), .string (Pl.str r), .bool fd]) ∧ Grow W w' from fun W k => by have := Cut_c s [62] ⟨#[62]⟩ rfl W hs k; rw [hcut] at this; exact this)
  go_enter Tryd.func67, Tryd.ntmps67
  go_wp2_with fail
  generalize (w.alloc (.cells #[.int .i64 0, .int .i64 0, .int .i64 0] 82)).alloc (.cells #[.int .i64 1, .int .i64 0, .int .i64 0] 82) = w1 at *
  refine (C0.out _ (hM.grow G0)).mono ?_
  rintro e w2 ⟨rfl, g2⟩
  replace y2 := y2.grow g2
  replace y7 := y7.grow g2
  have G := G0.trans g2
  clear g2 G0 C0
  have hlt := y7.lt
  cases fd with
  | true =>
    have HP := Lib.hid (show Pl.pX s = Pl.pX2 1 l r by unfold Pl.pX; rw [hcut, if_pos rfl])
    clear hcut
    obtain ⟨t1, b1, ht1⟩ : ∃ t1 b1, Pl.pT l = (t1, b1) := ⟨_, _, rfl⟩
    obtain ⟨t2, b2, ht2⟩ : ∃ t2 b2, Pl.pT r = (t2, b2) := ⟨_, _, rfl⟩
    have D1 := Lib.hid (show ∀ W, TabN W → Calls Tryd.prog 100 #[.string (Pl.str l)] W fun e w' => e = .returned (.tuple #[.int .i64 t1, .bool b1]) ∧ W = w' from fun W k => by have := ParseTerm_c l W k; rw [ht1] at this; exact this)
    have D2 := Lib.hid (show ∀ W, TabN W → Calls Tryd.prog 100 #[.string (Pl.str r)] W fun e w' => e = .returned (.tuple #[.int .i64 t2, .bool b2]) ∧ W = w' from fun W k => by have := ParseTerm_c r W k; rw [ht2] at this; exact this)
    have HQ := Lib.hid (show Pl.pX s = if b1 && b2 then (⟨1, t1, t2⟩, true) else (Pl.noX, false) by rw [HP.out]; unfold Pl.pX2; rw [ht1, ht2])
    clear ht1 ht2 HP
    obtain ⟨p0, p1, p2⟩ := y2.facts
    have f0 := y2.frz 0
    have f1 := y2.frz 1
    have f2 := y2.frz 2
    have hlw : w.heap.size ≤ w.heap.size + 1 := by omega
    go_wp2_with fail
    refine (D1.out _ (hT.grow G)).mono ?_
    rintro e w4 ⟨rfl, rfl⟩
    obtain ⟨r0, r1, r2⟩ := y7.facts
    have e1 := y7.frz 1
    cases b1 with
    | false =>
      have HX := Lib.hid (show Pl.pX s = (Pl.noX, false) from HQ.out.trans (by simp))
      go_wp2_with fail
      refine bodyPost_ret (v := xres (Pl.noX, false)) (by simp [results, Tryd.results67, go_sem, p0, p1, p2, xres, Pl.noX]) rfl ⟨by rw [HX.out], ?_⟩
      exact (((G.setCell (p := ⟨w.heap.size + 1, 1, none⟩) hlw (.int .i64 t1)).setCell (Nat.le_refl _) _).setCell (Nat.le_refl _) _).setCell (Nat.le_refl _) _
    | true =>
      go_wp2_with fail
      replace y7 := y7.set1 (.int .i64 t1)
      replace y2 := y2.far (p := ⟨w.heap.size + 1, 1, none⟩) (by show w.heap.size ≠ w.heap.size + 1; omega) (.int .i64 t1)
      replace G := G.setCell (p := ⟨w.heap.size + 1, 1, none⟩) hlw (.int .i64 t1)
      clear r0 r1 r2 e1 p0 p1 p2 f0 f1 f2 D1
      generalize w2.setCell ⟨w.heap.size + 1, 1, none⟩ (.int .i64 t1) = w8 at *
      refine (D2.out _ (hT.grow G)).mono ?_
      rintro e w4 ⟨rfl, rfl⟩
      obtain ⟨r0, r1, r2⟩ := y7.facts
      have e2 := y7.frz 2
      obtain ⟨p0, p1, p2⟩ := y2.facts
      have f0 := y2.frz 0
      have f1 := y2.frz 1
      have f2 := y2.frz 2
      cases b2 with
      | false =>
        have HX := Lib.hid (show Pl.pX s = (Pl.noX, false) from HQ.out.trans (by simp))
        go_wp2_with fail
        refine bodyPost_ret (v := xres (Pl.noX, false)) (by simp [results, Tryd.results67, go_sem, p0, p1, p2, xres, Pl.noX]) rfl ⟨by rw [HX.out], ?_⟩
        exact (((G.setCell (p := ⟨w.heap.size + 1, 2, none⟩) hlw (.int .i64 t2)).setCell (Nat.le_refl _) _).setCell (Nat.le_refl _) _).setCell (Nat.le_refl _) _
      | true =>
        have HX := Lib.hid (show Pl.pX s = (⟨1, t1, t2⟩, true) from HQ.out.trans (by simp))
        go_wp2_with fail
        refine bodyPost_ret (v := xres (⟨1, t1, t2⟩, true)) (by simp [results, Tryd.results67, go_sem, p0, p1, p2, xres]) rfl ⟨by rw [HX.out], ?_⟩
        exact (((G.setCell (p := ⟨w.heap.size + 1, 2, none⟩) hlw (.int .i64 t2)).setCell (Nat.le_refl _) _).setCell (Nat.le_refl _) _).setCell (Nat.le_refl _) _
  | false =>
    obtain ⟨l9, r9, fd, hcut2⟩ : ∃ l r fd, Lib.cut s [126] = (l, r, fd) := ⟨_, _, _, rfl⟩
    have C1 := Lib.hid (show ∀ W, MaxL W → Calls Tryd.prog 51 #[.string (Pl.str s), .string ⟨#[126]⟩] W fun e w' => e = .returned (.tuple #[.string (Pl.str l9), .string (Pl.str r9), .bool fd]) ∧ Grow W w' from fun W k => by have := Cut_c s [126] ⟨#[126]⟩ rfl W hs k; rw [hcut2] at this; exact this)
    have HP0 := Lib.hid (show Pl.pX s = if fd then Pl.pX2 2 l9 r9 else (Pl.noX, false) by unfold Pl.pX; rw [hcut, if_neg (by simp), hcut2])
    clear hcut hcut2
    obtain ⟨r0, r1, r2⟩ := y7.facts
    have e0 := y7.frz 0
    go_wp2_with fail
    replace y7 := y7.set0 (.int .i64 2)
    replace y2 := y2.far (p := ⟨w.heap.size + 1, 0, none⟩) (by show w.heap.size ≠ w.heap.size + 1; omega) (.int .i64 2)
    replace G := G.setCell (p := ⟨w.heap.size + 1, 0, none⟩) (by show w.heap.size ≤ w.heap.size + 1; omega) (.int .i64 2)
    clear r0 r1 r2 e0
    generalize w2.setCell ⟨w.heap.size + 1, 0, none⟩ (.int .i64 2) = w5 at *
    refine (C1.out _ (hM.grow G)).mono ?_
    rintro e w6 ⟨rfl, g6⟩
    replace y2 := y2.grow g6
    replace y7 := y7.grow g6
    replace G := G.trans g6
    clear g6 C1
    obtain ⟨l, rfl⟩ : ∃ x, x = l9 := ⟨_, rfl⟩
    obtain ⟨r, rfl⟩ : ∃ x, x = r9 := ⟨_, rfl⟩
    cases fd with
    | true =>
      have HP := Lib.hid (show Pl.pX s = Pl.pX2 2 l r from HP0.out)
      clear HP0
      obtain ⟨t1, b1, ht1⟩ : ∃ t1 b1, Pl.pT l = (t1, b1) := ⟨_, _, rfl⟩
      obtain ⟨t2, b2, ht2⟩ : ∃ t2 b2, Pl.pT r = (t2, b2) := ⟨_, _, rfl⟩
      have D1 := Lib.hid (show ∀ W, TabN W → Calls Tryd.prog 100 #[.string (Pl.str l)] W fun e w' => e = .returned (.tuple #[.int .i64 t1, .bool b1]) ∧ W = w' from fun W k => by have := ParseTerm_c l W k; rw [ht1] at this; exact this)
      have D2 := Lib.hid (show ∀ W, TabN W → Calls Tryd.prog 100 #[.string (Pl.str r)] W fun e w' => e = .returned (.tuple #[.int .i64 t2, .bool b2]) ∧ W = w' from fun W k => by have := ParseTerm_c r W k; rw [ht2] at this; exact this)
      have HQ := Lib.hid (show Pl.pX s = if b1 && b2 then (⟨2, t1, t2⟩, true) else (Pl.noX, false) by rw [HP.out]; unfold Pl.pX2; rw [ht1, ht2])
      clear ht1 ht2 HP
      obtain ⟨p0, p1, p2⟩ := y2.facts
      have f0 := y2.frz 0
      have f1 := y2.frz 1
      have f2 := y2.frz 2
      have hlw : w.heap.size ≤ w.heap.size + 1 := by omega
      go_wp2_with fail
      refine (D1.out _ (hT.grow G)).mono ?_
      rintro e w4 ⟨rfl, rfl⟩
      obtain ⟨r0, r1, r2⟩ := y7.facts
      have e1 := y7.frz 1
      cases b1 with
      | false =>
        have HX := Lib.hid (show Pl.pX s = (Pl.noX, false) from HQ.out.trans (by simp))
        go_wp2_with fail
        refine bodyPost_ret (v := xres (Pl.noX, false)) (by simp [results, Tryd.results67, go_sem, p0, p1, p2, xres, Pl.noX]) rfl ⟨by rw [HX.out], ?_⟩
        exact (((G.setCell (p := ⟨w.heap.size + 1, 1, none⟩) hlw (.int .i64 t1)).setCell (Nat.le_refl _) _).setCell (Nat.le_refl _) _).setCell (Nat.le_refl _) _
      | true =>
        go_wp2_with fail
        replace y7 := y7.set1 (.int .i64 t1)
        replace y2 := y2.far (p := ⟨w.heap.size + 1, 1, none⟩) (by show w.heap.size ≠ w.heap.size + 1; omega) (.int .i64 t1)
        replace G := G.setCell (p := ⟨w.heap.size + 1, 1, none⟩) hlw (.int .i64 t1)
        clear r0 r1 r2 e1 p0 p1 p2 f0 f1 f2 D1
        generalize w6.setCell ⟨w.heap.size + 1, 1, none⟩ (.int .i64 t1) = w8 at *
        refine (D2.out _ (hT.grow G)).mono ?_
        rintro e w4 ⟨rfl, rfl⟩
        obtain ⟨r0, r1, r2⟩ := y7.facts
        have e2 := y7.frz 2
        obtain ⟨p0, p1, p2⟩ := y2.facts
        have f0 := y2.frz 0
        have f1 := y2.frz 1
        have f2 := y2.frz 2
        cases b2 with
        | false =>
          have HX := Lib.hid (show Pl.pX s = (Pl.noX, false) from HQ.out.trans (by simp))
          go_wp2_with fail
          refine bodyPost_ret (v := xres (Pl.noX, false)) (by simp [results, Tryd.results67, go_sem, p0, p1, p2, xres, Pl.noX]) rfl ⟨by rw [HX.out], ?_⟩
          exact (((G.setCell (p := ⟨w.heap.size + 1, 2, none⟩) hlw (.int .i64 t2)).setCell (Nat.le_refl _) _).setCell (Nat.le_refl _) _).setCell (Nat.le_refl _) _
        | true =>
          have HX := Lib.hid (show Pl.pX s = (⟨2, t1, t2⟩, true) from HQ.out.trans (by simp))
          go_wp2_with fail
          refine bodyPost_ret (v := xres (⟨2, t1, t2⟩, true)) (by simp [results, Tryd.results67, go_sem, p0, p1, p2, xres]) rfl ⟨by rw [HX.out], ?_⟩
          exact (((G.setCell (p := ⟨w.heap.size + 1, 2, none⟩) hlw (.int .i64 t2)).setCell (Nat.le_refl _) _).setCell (Nat.le_refl _) _).setCell (Nat.le_refl _) _
    | false =>
      have HX := Lib.hid (show Pl.pX s = (Pl.noX, false) from HP0.out)
      obtain ⟨p0, p1, p2⟩ := y2.facts
      have f0 := y2.frz 0
      have f1 := y2.frz 1
      have f2 := y2.frz 2
      go_wp2_with fail
      refine bodyPost_ret (v := xres (Pl.noX, false)) (by simp [results, Tryd.results67, go_sem, p0, p1, p2, xres, Pl.noX]) rfl ⟨by rw [HX.out], ?_⟩
      exact ((G.setCell (Nat.le_refl _) _).setCell (Nat.le_refl _) _).setCell (Nat.le_refl _) _

end Go.Proofs.YtifdefkkofngoaaDoor
