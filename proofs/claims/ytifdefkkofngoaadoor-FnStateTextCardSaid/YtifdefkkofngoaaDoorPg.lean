/- Contract of the reference's ParseFact. Conditions: the text is shorter than the library's bound. -/
import Derived.Test.YtifdefkkofngoaaDoorPf
import Derived.Test.YtifdefkkofngoaaDoorPlainAll
namespace Go.Proofs.YtifdefkkofngoaaDoor
open Go.RowKit
set_option linter.unusedVariables false


theorem str_get {s : List UInt8} {k : Nat} (h : k < s.length) (h' : k < (Pl.str s).size) : (Pl.str s)[k]'h' = s[k] := by
  show (Pl.str s).data[k]'(by exact h') = s[k]
  simp [Pl.str]; rfl
theorem str_ext (s : List UInt8) (a b : Nat) : (Pl.str s).extract a b = Pl.str ((s.take b).drop a) := by
  rw [← Pl.data_str ((Pl.str s).extract a b)]
  congr 1
  simp [Pl.str, ByteArray.data_extract, List.drop_take]
theorem u8_eq (c d : UInt8) (z : Int) (hz : z = (d.toNat : Int)) : ((c.toNat : Int) == z) = decide (c = d) := by
  subst hz
  rw [Bool.eq_iff_iff, beq_iff_eq, decide_eq_true_iff]
  constructor
  · intro h
    exact UInt8.toNat_inj.1 (by omega)
  · intro h
    rw [h]


set_option maxRecDepth 100000 in
set_option maxHeartbeats 3200000 in
theorem sParseFact_c (s : List UInt8) (w : World) (hs : s.length ≤ 2000000) :
    Calls Tryd.prog 64 #[.string (Pl.str s)] w fun e w' => e = .returned (fres (Pl.pF s)) ∧ Grow w w' := by
  have y2 := Box3.new w 78 (.bool false) (.int .i64 0) (.int .i64 0)
  have G0 : Grow w (w.alloc (.cells #[.bool false, .int .i64 0, .int .i64 0] 78)) := (by repeat (first | exact Grow.refl _ | assumption | refine Grow.alloc ?_ _ | refine Grow.drew ?_ | refine Grow.drewN ?_ _ | refine Grow.trans ?_ (by assumption) | refine Grow.below ?_ (by assumption) (by first | exact Nat.le_refl _ | omega)))
  have hsz : (Pl.str s).size = s.length := Pl.str_size s
  go_enter Tryd.func64, Tryd.ntmps64
  go_wp2_with fail
  generalize w.alloc (.cells #[.bool false, .int .i64 0, .int .i64 0] 78) = w1 at *
  go_loopw [4, 6, 7, 8, 9, 10] (fun i _ _ _ _ _ wr => ∃ k : Nat, k ≤ s.length ∧ i = .int .i64 k ∧ Hid (∀ j, j < k → s[j]? ≠ some 61) ∧ Grow w wr ∧ Box3 wr w.heap.size 78 (.bool false) (.int .i64 0) (.int .i64 0)) (fun i _ _ _ _ _ _ => s.length - (intOf i).toNat)
  case atStart => exact ⟨0, Nat.zero_le _, rfl, Lib.hid (fun j hj => by omega), G0, y2⟩
  case round =>
    clear G0 y2
    obtain ⟨k, hk, rfl, HN, G, y2⟩ := hrel
    obtain ⟨p0, p1, p2⟩ := y2.facts
    have f0 := y2.frz 0
    have f1 := y2.frz 1
    have f2 := y2.frz 2
    by_cases h9 : s.length ≤ 9
    · have h9' : (s.length : Int) ≤ 9 := by omega
      by_cases hlt : k < s.length
      · have hk2 : (k : Int) < (s.length : Int) := by omega
        have hk3 : (0 : Int) ≤ (k : Int) := by omega
        have hg : (Pl.str s)[k]'(by rw [hsz]; exact hlt) = s[k] := str_get hlt _
        by_cases hc : s[k] = 61
        · have hb : ((((Pl.str s)[k]'(by rw [hsz]; exact hlt)).toNat : Int) != 61) = false := by rw [hg, hc]; rfl
          have HI := Lib.hid (show s[k]? = some 61 by rw [List.getElem?_eq_getElem hlt, hc])
          have hkl : (k : Int) + 1 ≤ (s.length : Int) := by omega
          clear hc hg
          by_cases hk0 : 0 < k
          · have hk4 : (0 : Int) < (k : Int) := by omega
            have hk5 : k - 1 < s.length := by omega
            have hg1 : (Pl.str s)[k - 1]'(by rw [hsz]; exact hk5) = s[k - 1] := str_get hk5 _
            by_cases hm : s[k - 1] = 33
            · have hb2 : ((((Pl.str s)[k - 1]'(by rw [hsz]; exact hk5)).toNat : Int) == 33) = true := by rw [hg1, hm]; rfl
              have HP := Lib.hid (Pl.pF_at HI.out HN.out ⟨hk0, by rw [List.getElem?_eq_getElem hk5, hm]⟩)
              clear hm hg1
              obtain ⟨t1, b1, ht1⟩ : ∃ t1 b1, Pl.pT (s.take (k - 1)) = (t1, b1) := ⟨_, _, rfl⟩
              obtain ⟨t2, b2, ht2⟩ : ∃ t2 b2, Pl.pT (s.drop (k + 1)) = (t2, b2) := ⟨_, _, rfl⟩
              have D1 := Lib.hid (show ∀ W, Calls Tryd.prog 98 #[.string ((Pl.str s).extract 0 (k - 1))] W fun e w' => e = .returned (.tuple #[.int .i64 t1, .bool b1]) ∧ W = w' from fun W => by have := sParseTerm_c (s.take (k - 1)) W; rw [ht1] at this; rw [str_ext]; exact this)
              have D2 := Lib.hid (show ∀ W, Calls Tryd.prog 98 #[.string ((Pl.str s).extract (k + 1) s.length)] W fun e w' => e = .returned (.tuple #[.int .i64 t2, .bool b2]) ∧ W = w' from fun W => by have := sParseTerm_c (s.drop (k + 1)) W; rw [ht2] at this; rw [str_ext, List.take_length]; exact this)
              have HQ := Lib.hid (show Pl.pF s = if b1 && b2 then (⟨false, t1, t2⟩, true) else (Pl.noF, false) by rw [HP.out]; unfold Pl.pF2; rw [ht1, ht2])
              clear ht1 ht2 HP
              have y5 := Box3.new wr 78 (.bool false) (.int .i64 0) (.int .i64 0)
              have q : Grow wr (wr.alloc (.cells #[.bool false, .int .i64 0, .int .i64 0] 78)) := (by repeat (first | exact Grow.refl _ | assumption | refine Grow.alloc ?_ _ | refine Grow.drew ?_ | refine Grow.drewN ?_ _ | refine Grow.trans ?_ (by assumption) | refine Grow.below ?_ (by assumption) (by first | exact Nat.le_refl _ | omega)))
              have z2 := y2.grow q
              have G9 := G.trans q
              have hz2 := y2.lt
              have hlw : w.heap.size ≤ wr.heap.size := by omega
              clear q y2 p0 p1 p2 f0 f1 f2
              go_wp2_with fail
              generalize wr.alloc (.cells #[.bool false, .int .i64 0, .int .i64 0] 78) = wz at *
              refine (D1.out _).mono ?_
              rintro e w4 ⟨rfl, rfl⟩
              go_wp2_with fail
              refine (D2.out _).mono ?_
              rintro e w4 ⟨rfl, rfl⟩
              obtain ⟨p0, p1, p2⟩ := z2.facts
              have f0 := z2.frz 0
              have f1 := z2.frz 1
              have f2 := z2.frz 2
              obtain ⟨r0, r1, r2⟩ := y5.facts
              have e1 := y5.frz 1
              have e2 := y5.frz 2
              cases b1 with
              | false =>
                have HX := Lib.hid (show Pl.pF s = (Pl.noF, false) from HQ.out.trans (by simp))
                go_wp2_with fail
                refine bodyPost_ret (v := fres (Pl.noF, false)) (by simp [results, Tryd.results64, go_sem, p0, p1, p2, fres, Pl.noF]) rfl ⟨by rw [HX.out], ?_⟩
                exact ((G9.setCell (Nat.le_refl _) _).setCell (Nat.le_refl _) _).setCell (Nat.le_refl _) _
              | true => cases b2 with
                | false =>
                  have HX := Lib.hid (show Pl.pF s = (Pl.noF, false) from HQ.out.trans (by simp))
                  go_wp2_with fail
                  refine bodyPost_ret (v := fres (Pl.noF, false)) (by simp [results, Tryd.results64, go_sem, p0, p1, p2, fres, Pl.noF]) rfl ⟨by rw [HX.out], ?_⟩
                  exact ((G9.setCell (Nat.le_refl _) _).setCell (Nat.le_refl _) _).setCell (Nat.le_refl _) _
                | true =>
                  have HX := Lib.hid (show Pl.pF s = (⟨false, t1, t2⟩, true) from HQ.out.trans (by simp))
                  go_wp2_with fail
                  refine bodyPost_ret (v := fres (⟨false, t1, t2⟩, true)) (by simp [results, Tryd.results64, go_sem, p0, p1, p2, fres]) rfl ⟨by rw [HX.out], ?_⟩
                  exact ((((G9.setCell (p := ⟨wr.heap.size, 1, none⟩) hlw (.int .i64 t1)).setCell (p := ⟨wr.heap.size, 2, none⟩) hlw (.int .i64 t2)).setCell (Nat.le_refl _) _).setCell (Nat.le_refl _) _).setCell (Nat.le_refl _) _
            · have hb2 : ((((Pl.str s)[k - 1]'(by rw [hsz]; exact hk5)).toNat : Int) == 33) = false := by rw [hg1, u8_eq _ 33 33 rfl]; exact decide_eq_false hm
              have HP := Lib.hid (Pl.pF_at2 HI.out HN.out (fun h => hm (by have := h.2; rw [List.getElem?_eq_getElem hk5] at this; injection this)))
              clear hm hg1
              obtain ⟨t1, b1, ht1⟩ : ∃ t1 b1, Pl.pT (s.take k) = (t1, b1) := ⟨_, _, rfl⟩
              obtain ⟨t2, b2, ht2⟩ : ∃ t2 b2, Pl.pT (s.drop (k + 1)) = (t2, b2) := ⟨_, _, rfl⟩
              have D1 := Lib.hid (show ∀ W, Calls Tryd.prog 98 #[.string ((Pl.str s).extract 0 k)] W fun e w' => e = .returned (.tuple #[.int .i64 t1, .bool b1]) ∧ W = w' from fun W => by have := sParseTerm_c (s.take k) W; rw [ht1] at this; rw [str_ext]; exact this)
              have D2 := Lib.hid (show ∀ W, Calls Tryd.prog 98 #[.string ((Pl.str s).extract (k + 1) s.length)] W fun e w' => e = .returned (.tuple #[.int .i64 t2, .bool b2]) ∧ W = w' from fun W => by have := sParseTerm_c (s.drop (k + 1)) W; rw [ht2] at this; rw [str_ext, List.take_length]; exact this)
              have HQ := Lib.hid (show Pl.pF s = if b1 && b2 then (⟨true, t1, t2⟩, true) else (Pl.noF, false) by rw [HP.out]; unfold Pl.pF2; rw [ht1, ht2])
              clear ht1 ht2 HP
              have y5 := Box3.new wr 78 (.bool true) (.int .i64 0) (.int .i64 0)
              have q : Grow wr (wr.alloc (.cells #[.bool true, .int .i64 0, .int .i64 0] 78)) := (by repeat (first | exact Grow.refl _ | assumption | refine Grow.alloc ?_ _ | refine Grow.drew ?_ | refine Grow.drewN ?_ _ | refine Grow.trans ?_ (by assumption) | refine Grow.below ?_ (by assumption) (by first | exact Nat.le_refl _ | omega)))
              have z2 := y2.grow q
              have G9 := G.trans q
              have hz2 := y2.lt
              have hlw : w.heap.size ≤ wr.heap.size := by omega
              clear q y2 p0 p1 p2 f0 f1 f2
              go_wp2_with fail
              generalize wr.alloc (.cells #[.bool true, .int .i64 0, .int .i64 0] 78) = wz at *
              refine (D1.out _).mono ?_
              rintro e w4 ⟨rfl, rfl⟩
              go_wp2_with fail
              refine (D2.out _).mono ?_
              rintro e w4 ⟨rfl, rfl⟩
              obtain ⟨p0, p1, p2⟩ := z2.facts
              have f0 := z2.frz 0
              have f1 := z2.frz 1
              have f2 := z2.frz 2
              obtain ⟨r0, r1, r2⟩ := y5.facts
              have e1 := y5.frz 1
              have e2 := y5.frz 2
              cases b1 with
              | false =>
                have HX := Lib.hid (show Pl.pF s = (Pl.noF, false) from HQ.out.trans (by simp))
                go_wp2_with fail
                refine bodyPost_ret (v := fres (Pl.noF, false)) (by simp [results, Tryd.results64, go_sem, p0, p1, p2, fres, Pl.noF]) rfl ⟨by rw [HX.out], ?_⟩
                exact ((G9.setCell (Nat.le_refl _) _).setCell (Nat.le_refl _) _).setCell (Nat.le_refl _) _
              | true => cases b2 with
                | false =>
                  have HX := Lib.hid (show Pl.pF s = (Pl.noF, false) from HQ.out.trans (by simp))
                  go_wp2_with fail
                  refine bodyPost_ret (v := fres (Pl.noF, false)) (by simp [results, Tryd.results64, go_sem, p0, p1, p2, fres, Pl.noF]) rfl ⟨by rw [HX.out], ?_⟩
                  exact ((G9.setCell (Nat.le_refl _) _).setCell (Nat.le_refl _) _).setCell (Nat.le_refl _) _
                | true =>
                  have HX := Lib.hid (show Pl.pF s = (⟨true, t1, t2⟩, true) from HQ.out.trans (by simp))
                  go_wp2_with fail
                  refine bodyPost_ret (v := fres (⟨true, t1, t2⟩, true)) (by simp [results, Tryd.results64, go_sem, p0, p1, p2, fres]) rfl ⟨by rw [HX.out], ?_⟩
                  exact ((((G9.setCell (p := ⟨wr.heap.size, 1, none⟩) hlw (.int .i64 t1)).setCell (p := ⟨wr.heap.size, 2, none⟩) hlw (.int .i64 t2)).setCell (Nat.le_refl _) _).setCell (Nat.le_refl _) _).setCell (Nat.le_refl _) _
          · have hk4 : ¬ (0 : Int) < (k : Int) := by omega
            have HP := Lib.hid (Pl.pF_at2 HI.out HN.out (fun h => hk0 h.1))
            obtain ⟨t1, b1, ht1⟩ : ∃ t1 b1, Pl.pT (s.take k) = (t1, b1) := ⟨_, _, rfl⟩
            obtain ⟨t2, b2, ht2⟩ : ∃ t2 b2, Pl.pT (s.drop (k + 1)) = (t2, b2) := ⟨_, _, rfl⟩
            have D1 := Lib.hid (show ∀ W, Calls Tryd.prog 98 #[.string ((Pl.str s).extract 0 k)] W fun e w' => e = .returned (.tuple #[.int .i64 t1, .bool b1]) ∧ W = w' from fun W => by have := sParseTerm_c (s.take k) W; rw [ht1] at this; rw [str_ext]; exact this)
            have D2 := Lib.hid (show ∀ W, Calls Tryd.prog 98 #[.string ((Pl.str s).extract (k + 1) s.length)] W fun e w' => e = .returned (.tuple #[.int .i64 t2, .bool b2]) ∧ W = w' from fun W => by have := sParseTerm_c (s.drop (k + 1)) W; rw [ht2] at this; rw [str_ext, List.take_length]; exact this)
            have HQ := Lib.hid (show Pl.pF s = if b1 && b2 then (⟨true, t1, t2⟩, true) else (Pl.noF, false) by rw [HP.out]; unfold Pl.pF2; rw [ht1, ht2])
            clear ht1 ht2 HP
            have y5 := Box3.new wr 78 (.bool true) (.int .i64 0) (.int .i64 0)
            have q : Grow wr (wr.alloc (.cells #[.bool true, .int .i64 0, .int .i64 0] 78)) := (by repeat (first | exact Grow.refl _ | assumption | refine Grow.alloc ?_ _ | refine Grow.drew ?_ | refine Grow.drewN ?_ _ | refine Grow.trans ?_ (by assumption) | refine Grow.below ?_ (by assumption) (by first | exact Nat.le_refl _ | omega)))
            have z2 := y2.grow q
            have G9 := G.trans q
            have hz2 := y2.lt
            have hlw : w.heap.size ≤ wr.heap.size := by omega
            clear q y2 p0 p1 p2 f0 f1 f2
            go_wp2_with fail
            generalize wr.alloc (.cells #[.bool true, .int .i64 0, .int .i64 0] 78) = wz at *
            refine (D1.out _).mono ?_
            rintro e w4 ⟨rfl, rfl⟩
            go_wp2_with fail
            refine (D2.out _).mono ?_
            rintro e w4 ⟨rfl, rfl⟩
            obtain ⟨p0, p1, p2⟩ := z2.facts
            have f0 := z2.frz 0
            have f1 := z2.frz 1
            have f2 := z2.frz 2
            obtain ⟨r0, r1, r2⟩ := y5.facts
            have e1 := y5.frz 1
            have e2 := y5.frz 2
            cases b1 with
            | false =>
              have HX := Lib.hid (show Pl.pF s = (Pl.noF, false) from HQ.out.trans (by simp))
              go_wp2_with fail
              refine bodyPost_ret (v := fres (Pl.noF, false)) (by simp [results, Tryd.results64, go_sem, p0, p1, p2, fres, Pl.noF]) rfl ⟨by rw [HX.out], ?_⟩
              exact ((G9.setCell (Nat.le_refl _) _).setCell (Nat.le_refl _) _).setCell (Nat.le_refl _) _
            | true => cases b2 with
              | false =>
                have HX := Lib.hid (show Pl.pF s = (Pl.noF, false) from HQ.out.trans (by simp))
                go_wp2_with fail
                refine bodyPost_ret (v := fres (Pl.noF, false)) (by simp [results, Tryd.results64, go_sem, p0, p1, p2, fres, Pl.noF]) rfl ⟨by rw [HX.out], ?_⟩
                exact ((G9.setCell (Nat.le_refl _) _).setCell (Nat.le_refl _) _).setCell (Nat.le_refl _) _
              | true =>
                have HX := Lib.hid (show Pl.pF s = (⟨true, t1, t2⟩, true) from HQ.out.trans (by simp))
                go_wp2_with fail
                refine bodyPost_ret (v := fres (⟨true, t1, t2⟩, true)) (by simp [results, Tryd.results64, go_sem, p0, p1, p2, fres]) rfl ⟨by rw [HX.out], ?_⟩
                exact ((((G9.setCell (p := ⟨wr.heap.size, 1, none⟩) hlw (.int .i64 t1)).setCell (p := ⟨wr.heap.size, 2, none⟩) hlw (.int .i64 t2)).setCell (Nat.le_refl _) _).setCell (Nat.le_refl _) _).setCell (Nat.le_refl _) _
        · have hb : ((((Pl.str s)[k]'(by rw [hsz]; exact hlt)).toNat : Int) != 61) = true := by rw [hg, bne, u8_eq _ 61 61 rfl, decide_eq_false hc]; rfl
          have HN2 := Lib.hid (show ∀ j, j < k + 1 → s[j]? ≠ some 61 from fun j hj => by
            by_cases e : j = k
            · subst e; rw [List.getElem?_eq_getElem hlt]; intro h; injection h with h; exact hc h
            · exact HN.out j (by omega))
          clear hc hg HN
          go_wp2_with fail
          go_roundw
          case rel => exact ⟨k + 1, by omega, by go_num, HN2, G, y2⟩
          case measure => simp [intOf]; omega
      · have hk2 : ¬ (k : Int) < (s.length : Int) := by omega
        have HX := Lib.hid (Pl.pF_none (fun j hj => HN.out j (by omega)))
        go_wp2_with fail
        refine bodyPost_ret (v := fres (Pl.noF, false)) (by simp [results, Tryd.results64, go_sem, p0, p1, p2, fres, Pl.noF]) rfl ⟨by rw [HX.out], ?_⟩
        exact ((G.setCell (Nat.le_refl _) _).setCell (Nat.le_refl _) _).setCell (Nat.le_refl _) _
    · have h9' : ¬ (s.length : Int) ≤ 9 := by omega
      have HX := Lib.hid (Pl.pF_long (s := s) (by omega))
      by_cases hlt : k < s.length
      · have hk2 : (k : Int) < (s.length : Int) := by omega
        go_wp2_with fail
        refine bodyPost_ret (v := fres (Pl.noF, false)) (by simp [results, Tryd.results64, go_sem, p0, p1, p2, fres, Pl.noF]) rfl ⟨by rw [HX.out], ?_⟩
        exact ((G.setCell (Nat.le_refl _) _).setCell (Nat.le_refl _) _).setCell (Nat.le_refl _) _
      · have hk2 : ¬ (k : Int) < (s.length : Int) := by omega
        go_wp2_with fail
        refine bodyPost_ret (v := fres (Pl.noF, false)) (by simp [results, Tryd.results64, go_sem, p0, p1, p2, fres, Pl.noF]) rfl ⟨by rw [HX.out], ?_⟩
        exact ((G.setCell (Nat.le_refl _) _).setCell (Nat.le_refl _) _).setCell (Nat.le_refl _) _

end Go.Proofs.YtifdefkkofngoaaDoor
