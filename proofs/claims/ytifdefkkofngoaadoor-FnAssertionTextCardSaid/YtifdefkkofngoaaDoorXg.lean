/- Contract of the reference's reading of an atom. Conditions: the text is shorter than the library's bound. -/
import Derived.Test.YtifdefkkofngoaaDoorPg
import Derived.Test.YtifdefkkofngoaaDoorPx
import Derived.Test.YtifdefkkofngoaaDoorPlainAll
namespace Go.Proofs.YtifdefkkofngoaaDoor
open Go.RowKit
set_option linter.unusedVariables false

/-- What the reference's reading of an atom answers. -/
def RX (w : World) (s : List UInt8) (e : Ending) (w' : World) : Prop := ∃ r, e = .returned (xres r) ∧ Pl.IsX s r ∧ Grow w w'


set_option maxRecDepth 100000 in
set_option maxHeartbeats 3200000 in
theorem l3ParseAtom_c (s : List UInt8) (w : World) (hs : s.length ≤ 2000000) : Calls Tryd.prog 65 #[.string (Pl.str s)] w (RX w s) := by
  have y2 := Box3.new w 82 (.int .i64 0) (.int .i64 0) (.int .i64 0)
  have G0 : Grow w (w.alloc (.cells #[.int .i64 0, .int .i64 0, .int .i64 0] 82)) := (by repeat (first | exact Grow.refl _ | assumption | refine Grow.alloc ?_ _ | refine Grow.drew ?_ | refine Grow.drewN ?_ _ | refine Grow.trans ?_ (by assumption) | refine Grow.below ?_ (by assumption) (by first | exact Nat.le_refl _ | omega)))
  have hsz : (Pl.str s).size = s.length := Pl.str_size s
  go_enter Tryd.func65, Tryd.ntmps65
  go_wp2_with fail
  generalize w.alloc (.cells #[.int .i64 0, .int .i64 0, .int .i64 0] 82) = w1 at *
  go_loopw [4, 6, 7, 8, 9] (fun i _ _ _ _ wr => ∃ k : Nat, k ≤ s.length ∧ i = .int .i64 k ∧ Hid (∀ j, j < k → s[j]? ≠ some 62 ∧ s[j]? ≠ some 126) ∧ Grow w wr ∧ Box3 wr w.heap.size 82 (.int .i64 0) (.int .i64 0) (.int .i64 0)) (fun i _ _ _ _ _ => s.length - (intOf i).toNat)
  case atStart => exact ⟨0, Nat.zero_le _, rfl, Lib.hid (fun j hj => by omega), G0, y2⟩
  case round =>
    clear G0 y2
    obtain ⟨k, hk, rfl, HN, G, y2⟩ := hrel
    obtain ⟨p0, p1, p2⟩ := y2.facts
    have f0 := y2.frz 0
    have f1 := y2.frz 1
    have f2 := y2.frz 2
    by_cases h7 : s.length ≤ 7
    · have h7' : (s.length : Int) ≤ 7 := by omega
      by_cases hlt : k < s.length
      · have hk2 : (k : Int) < (s.length : Int) := by omega
        have hk3 : (0 : Int) ≤ (k : Int) := by omega
        have hkl : (k : Int) + 1 ≤ (s.length : Int) := by omega
        have hg : (Pl.str s)[k]'(by rw [hsz]; exact hlt) = s[k] := str_get hlt _
        by_cases h62 : s[k] = 62
        · have hb : ((((Pl.str s)[k]'(by rw [hsz]; exact hlt)).toNat : Int) != 62) = false := by rw [hg, h62]; rfl
          have hb2 : ((((Pl.str s)[k]'(by rw [hsz]; exact hlt)).toNat : Int) == 126) = false := by rw [hg, h62]; rfl
          have HI := Lib.hid (Pl.isx_at (kd := 1) hlt (.inl h62) HN.out (fun _ => rfl) (fun e => absurd (h62.symm.trans e) (by decide)))
          clear h62 hg HN
          obtain ⟨t1, b1, ht1⟩ : ∃ t1 b1, Pl.pT (s.take k) = (t1, b1) := ⟨_, _, rfl⟩
          obtain ⟨t2, b2, ht2⟩ : ∃ t2 b2, Pl.pT (s.drop (k + 1)) = (t2, b2) := ⟨_, _, rfl⟩
          have D1 := Lib.hid (show ∀ W, Calls Tryd.prog 98 #[.string ((Pl.str s).extract 0 k)] W fun e w' => e = .returned (.tuple #[.int .i64 t1, .bool b1]) ∧ W = w' from fun W => by have := sParseTerm_c (s.take k) W; rw [ht1] at this; rw [str_ext]; exact this)
          have D2 := Lib.hid (show ∀ W, Calls Tryd.prog 98 #[.string ((Pl.str s).extract (k + 1) s.length)] W fun e w' => e = .returned (.tuple #[.int .i64 t2, .bool b2]) ∧ W = w' from fun W => by have := sParseTerm_c (s.drop (k + 1)) W; rw [ht2] at this; rw [str_ext, List.take_length]; exact this)
          have HX := Lib.hid (show Pl.IsX s (⟨1, t1, t2⟩, b1 && b2) by have := HI.out; rw [ht1, ht2] at this; exact this)
          clear ht1 ht2 HI
          have y5 := Box3.new wr 82 (.int .i64 1) (.int .i64 0) (.int .i64 0)
          have q : Grow wr (wr.alloc (.cells #[.int .i64 1, .int .i64 0, .int .i64 0] 82)) := (by repeat (first | exact Grow.refl _ | assumption | refine Grow.alloc ?_ _ | refine Grow.drew ?_ | refine Grow.drewN ?_ _ | refine Grow.trans ?_ (by assumption) | refine Grow.below ?_ (by assumption) (by first | exact Nat.le_refl _ | omega)))
          have z2 := y2.grow q
          have G9 := G.trans q
          have hz2 := y2.lt
          have hlw : w.heap.size ≤ wr.heap.size := by omega
          clear q y2 p0 p1 p2 f0 f1 f2
          go_wp2_with fail
          generalize wr.alloc (.cells #[.int .i64 1, .int .i64 0, .int .i64 0] 82) = wz at *
          refine (D1.out _).mono ?_
          rintro e w4 ⟨rfl, rfl⟩
          go_wp2_with fail
          refine (D2.out _).mono ?_
          rintro e w4 ⟨rfl, rfl⟩
          obtain ⟨p0, p1, p2⟩ := z2.facts
          have f0 := z2.frz 0
          have f1 := z2.frz 1
          have f2 := z2.frz 2
          obtain ⟨r0, r1, r2⟩ := y5.facts
          have e1 := y5.frz 1
          have e2 := y5.frz 2
          cases b1 with
          | false =>
            go_wp2_with fail
            refine bodyPost_ret (v := xres (⟨1, t1, t2⟩, false)) (by simp [results, Tryd.results65, go_sem, p0, p1, p2, xres]) rfl (show RX w s _ _ from ⟨_, rfl, HX.out, ?_⟩)
            exact ((((G9.setCell (p := ⟨wr.heap.size, 1, none⟩) hlw (.int .i64 t1)).setCell (p := ⟨wr.heap.size, 2, none⟩) hlw (.int .i64 t2)).setCell (Nat.le_refl _) _).setCell (Nat.le_refl _) _).setCell (Nat.le_refl _) _
          | true =>
            go_wp2_with fail
            refine bodyPost_ret (v := xres (⟨1, t1, t2⟩, b2)) (by simp [results, Tryd.results65, go_sem, p0, p1, p2, xres]) rfl (show RX w s _ _ from ⟨_, rfl, by have := HX.out; simpa using this, ?_⟩)
            exact ((((G9.setCell (p := ⟨wr.heap.size, 1, none⟩) hlw (.int .i64 t1)).setCell (p := ⟨wr.heap.size, 2, none⟩) hlw (.int .i64 t2)).setCell (Nat.le_refl _) _).setCell (Nat.le_refl _) _).setCell (Nat.le_refl _) _
        · by_cases h126 : s[k] = 126
          · have hb : ((((Pl.str s)[k]'(by rw [hsz]; exact hlt)).toNat : Int) != 62) = true := by rw [hg, h126]; rfl
            have hb2 : ((((Pl.str s)[k]'(by rw [hsz]; exact hlt)).toNat : Int) != 126) = false := by rw [hg, h126]; rfl
            have hb3 : ((((Pl.str s)[k]'(by rw [hsz]; exact hlt)).toNat : Int) == 126) = true := by rw [hg, h126]; rfl
            have HI := Lib.hid (Pl.isx_at (kd := 2) hlt (.inr h126) HN.out (fun e => absurd e h62) (fun _ => rfl))
            clear h62 h126 hg HN
            obtain ⟨t1, b1, ht1⟩ : ∃ t1 b1, Pl.pT (s.take k) = (t1, b1) := ⟨_, _, rfl⟩
            obtain ⟨t2, b2, ht2⟩ : ∃ t2 b2, Pl.pT (s.drop (k + 1)) = (t2, b2) := ⟨_, _, rfl⟩
            have D1 := Lib.hid (show ∀ W, Calls Tryd.prog 98 #[.string ((Pl.str s).extract 0 k)] W fun e w' => e = .returned (.tuple #[.int .i64 t1, .bool b1]) ∧ W = w' from fun W => by have := sParseTerm_c (s.take k) W; rw [ht1] at this; rw [str_ext]; exact this)
            have D2 := Lib.hid (show ∀ W, Calls Tryd.prog 98 #[.string ((Pl.str s).extract (k + 1) s.length)] W fun e w' => e = .returned (.tuple #[.int .i64 t2, .bool b2]) ∧ W = w' from fun W => by have := sParseTerm_c (s.drop (k + 1)) W; rw [ht2] at this; rw [str_ext, List.take_length]; exact this)
            have HX := Lib.hid (show Pl.IsX s (⟨2, t1, t2⟩, b1 && b2) by have := HI.out; rw [ht1, ht2] at this; exact this)
            clear ht1 ht2 HI
            have y5 := Box3.new wr 82 (.int .i64 2) (.int .i64 0) (.int .i64 0)
            have q : Grow wr (wr.alloc (.cells #[.int .i64 2, .int .i64 0, .int .i64 0] 82)) := (by repeat (first | exact Grow.refl _ | assumption | refine Grow.alloc ?_ _ | refine Grow.drew ?_ | refine Grow.drewN ?_ _ | refine Grow.trans ?_ (by assumption) | refine Grow.below ?_ (by assumption) (by first | exact Nat.le_refl _ | omega)))
            have z2 := y2.grow q
            have G9 := G.trans q
            have hz2 := y2.lt
            have hlw : w.heap.size ≤ wr.heap.size := by omega
            clear q y2 p0 p1 p2 f0 f1 f2
            go_wp2_with fail
            generalize wr.alloc (.cells #[.int .i64 2, .int .i64 0, .int .i64 0] 82) = wz at *
            refine (D1.out _).mono ?_
            rintro e w4 ⟨rfl, rfl⟩
            go_wp2_with fail
            refine (D2.out _).mono ?_
            rintro e w4 ⟨rfl, rfl⟩
            obtain ⟨p0, p1, p2⟩ := z2.facts
            have f0 := z2.frz 0
            have f1 := z2.frz 1
            have f2 := z2.frz 2
            obtain ⟨r0, r1, r2⟩ := y5.facts
            have e1 := y5.frz 1
            have e2 := y5.frz 2
            cases b1 with
            | false =>
              go_wp2_with fail
              refine bodyPost_ret (v := xres (⟨2, t1, t2⟩, false)) (by simp [results, Tryd.results65, go_sem, p0, p1, p2, xres]) rfl (show RX w s _ _ from ⟨_, rfl, HX.out, ?_⟩)
              exact ((((G9.setCell (p := ⟨wr.heap.size, 1, none⟩) hlw (.int .i64 t1)).setCell (p := ⟨wr.heap.size, 2, none⟩) hlw (.int .i64 t2)).setCell (Nat.le_refl _) _).setCell (Nat.le_refl _) _).setCell (Nat.le_refl _) _
            | true =>
              go_wp2_with fail
              refine bodyPost_ret (v := xres (⟨2, t1, t2⟩, b2)) (by simp [results, Tryd.results65, go_sem, p0, p1, p2, xres]) rfl (show RX w s _ _ from ⟨_, rfl, by have := HX.out; simpa using this, ?_⟩)
              exact ((((G9.setCell (p := ⟨wr.heap.size, 1, none⟩) hlw (.int .i64 t1)).setCell (p := ⟨wr.heap.size, 2, none⟩) hlw (.int .i64 t2)).setCell (Nat.le_refl _) _).setCell (Nat.le_refl _) _).setCell (Nat.le_refl _) _
          · have hb : ((((Pl.str s)[k]'(by rw [hsz]; exact hlt)).toNat : Int) != 62) = true := by rw [hg, bne, u8_eq _ 62 62 rfl, decide_eq_false h62]; rfl
            have hb2 : ((((Pl.str s)[k]'(by rw [hsz]; exact hlt)).toNat : Int) != 126) = true := by rw [hg, bne, u8_eq _ 126 126 rfl, decide_eq_false h126]; rfl
            have HN2 := Lib.hid (show ∀ j, j < k + 1 → s[j]? ≠ some 62 ∧ s[j]? ≠ some 126 from fun j hj => by
              by_cases e : j = k
              · subst e; rw [List.getElem?_eq_getElem hlt]; exact ⟨fun h => h62 (by injection h), fun h => h126 (by injection h)⟩
              · exact HN.out j (by omega))
            clear h62 h126 hg HN
            go_wp2_with fail
            go_roundw
            case rel => exact ⟨k + 1, by omega, by go_num, HN2, G, y2⟩
            case measure => simp [intOf]; omega
      · have hk2 : ¬ (k : Int) < (s.length : Int) := by omega
        have HX := Lib.hid (Pl.isx_lack (s := s) (fun j hj => HN.out j (by omega)))
        go_wp2_with fail
        refine bodyPost_ret (v := xres (Pl.noX, false)) (by simp [results, Tryd.results65, go_sem, p0, p1, p2, xres, Pl.noX]) rfl (show RX w s _ _ from ⟨_, rfl, HX.out, ?_⟩)
        exact ((G.setCell (Nat.le_refl _) _).setCell (Nat.le_refl _) _).setCell (Nat.le_refl _) _
    · have h7' : ¬ (s.length : Int) ≤ 7 := by omega
      have HX := Lib.hid (Pl.isx_long (s := s) (by omega))
      by_cases hlt : k < s.length
      · have hk2 : (k : Int) < (s.length : Int) := by omega
        go_wp2_with fail
        refine bodyPost_ret (v := xres (Pl.noX, false)) (by simp [results, Tryd.results65, go_sem, p0, p1, p2, xres, Pl.noX]) rfl (show RX w s _ _ from ⟨_, rfl, HX.out, ?_⟩)
        exact ((G.setCell (Nat.le_refl _) _).setCell (Nat.le_refl _) _).setCell (Nat.le_refl _) _
      · have hk2 : ¬ (k : Int) < (s.length : Int) := by omega
        go_wp2_with fail
        refine bodyPost_ret (v := xres (Pl.noX, false)) (by simp [results, Tryd.results65, go_sem, p0, p1, p2, xres, Pl.noX]) rfl (show RX w s _ _ from ⟨_, rfl, HX.out, ?_⟩)
        exact ((G.setCell (Nat.le_refl _) _).setCell (Nat.le_refl _) _).setCell (Nat.le_refl _) _

end Go.Proofs.YtifdefkkofngoaaDoor
