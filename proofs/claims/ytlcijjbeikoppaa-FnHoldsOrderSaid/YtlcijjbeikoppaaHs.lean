/- The part of a state that an assertion describes, and whether it is the whole: contracts of the reference. Conditions: the lengths are far from Go's bounds. -/
import Derived.Test.YtlcijjbeikoppaaHd
import Derived.Test.YtlcijjbeikoppaaKq
namespace Go.Proofs.Ytlcijjbeikoppaa
open Go.RowKit
set_option linter.unusedVariables false

theorem cnt_yes {p : Int → Bool} {k : Nat} (h : p ((k : Int) + 1) = true) : Pl.cnt p (k + 1) = Pl.cnt p k + 1 := by conv => lhs; unfold Pl.cnt
                                                                                                                    rw [h]; rfl
theorem cnt_no {p : Int → Bool} {k : Nat} (h : p ((k : Int) + 1) = false) : Pl.cnt p (k + 1) = Pl.cnt p k := by conv => lhs; unfold Pl.cnt
                                                                                                                rw [h]; rfl
theorem cntP_yes {p : Int → Bool} (h0 : p 0 = false) {k : Nat} (h : p (k : Int) = true) : Pl.cnt p (k + 1 - 1) = Pl.cnt p (k - 1) + 1 := by
  cases k with
  | zero => rw [show ((0 : Nat) : Int) = 0 from rfl, h0] at h; cases h
  | succ k => exact cnt_yes (by rw [show (k : Int) + 1 = ((k + 1 : Nat) : Int) by omega]; exact h)
theorem cntP_no {p : Int → Bool} {k : Nat} (h : p (k : Int) = false) : Pl.cnt p (k + 1 - 1) = Pl.cnt p (k - 1) := by
  cases k with
  | zero => rfl
  | succ k => exact cnt_no (by rw [show (k : Int) + 1 = ((k + 1 : Nat) : Int) by omega]; exact h)
theorem addFlg {w : World} {lo c n g t : Nat} {p : Int → Bool} (h : OFlg w lo (some ⟨g, 0, none⟩) c n p) (ht : t < n) : OFlg (w.setCell ⟨g, t, none⟩ (.bool true)) lo (some ⟨g, 0, none⟩) c n fun x => p x || decide (x = (t : Int)) :=
  (h.set (j := t) ht true).congr (fun x _ => by
    by_cases e : (x : Int) = (t : Int)
    · rw [if_pos e, decide_eq_true e, Bool.or_true]
    · rw [if_neg e, decide_eq_false e, Bool.or_false])

set_option maxRecDepth 100000 in
set_option maxHeartbeats 1600000 in
theorem l3List_c (g c9 lo : Nat) (p : Int → Bool) (w : World) (hF : OFlg w lo (some ⟨g, 0, none⟩) c9 9 p) (h0 : p 0 = false) :
    Calls Try.prog 92 #[.slice (some ⟨g, 0, none⟩) 9 c9] w fun e w' => ∃ (A : Option Addr) (c n : Nat), e = .returned (.slice A n c) ∧ n = Pl.cnt p 8 ∧ Grow w w' := by
  obtain ⟨i0, hi, hz0, hz1, hz2⟩ := info_parts int_info
  have H0 := Lib.hid h0
  clear h0
  go_enter Try.func92, Try.ntmps92
  go_wp2_with fail
  have o0 : OInts (w.alloc (.cells #[] 3)) w.heap.size (.slice (some ⟨w.heap.size, 0, none⟩) ([] : List Int).length 0) [] := own_empty (heap_alloc_new _ _) (Nat.le_refl _)
  have G0 : Grow w (w.alloc (.cells #[] 3)) := (by repeat (first | exact Grow.refl _ | assumption | refine Grow.alloc ?_ _ | refine Grow.drew ?_ | refine Grow.drewN ?_ _ | refine Grow.trans ?_ (by assumption) | refine Grow.below ?_ (by assumption) (by first | exact Nat.le_refl _ | omega)))
  have hF1 : OFlg (w.alloc (.cells #[] 3)) lo (some ⟨g, 0, none⟩) c9 9 p := own_grow hF G0
  have hsz : w.heap.size < (w.alloc (.cells #[] 3)).heap.size := by simp
  generalize w.alloc (.cells #[] 3) = w1 at *
  go_loopw [3, 4] (fun u i wr => ∃ (k : Nat) (l : List Int) (A : Option Addr) (c : Nat), k ≤ 9 ∧ i = .int .i64 k ∧ Hid (l.length = Pl.cnt p (k - 1)) ∧ l.length ≤ k ∧ u = .slice A l.length c ∧ OInts wr w.heap.size (.slice A l.length c) l ∧ Grow w wr) (fun _ i _ => 9 - (intOf i).toNat)
  case atStart => exact ⟨0, [], _, _, by omega, rfl, Lib.hid rfl, Nat.zero_le _, rfl, o0, G0⟩
  case round =>
    clear o0 G0
    obtain ⟨k, l, A1, c1, hk, rfl, HL, hlk, rfl, o1, G⟩ := hrel
    by_cases hk9 : k < 9
    · have hk2 : (k : Int) < 9 := by omega
      have hk3 : (0 : Int) ≤ (k : Int) := by omega
      have hF2 : OFlg wr lo (some ⟨g, 0, none⟩) c9 9 p := own_grow hF G
      have q0 := hF2.at_ hk9
      cases hp : p (k : Int) with
      | true =>
        rw [hp] at q0
        have HV := Lib.hid (show (l ++ [(k : Int)]).length = Pl.cnt p (k + 1 - 1) by rw [List.length_append, HL.out, cntP_yes H0.out hp]; rfl)
        have hszr := G.le
        clear hp
        go_wp2_with (at_builtin; go_must (refine wpList_append_src _ rfl _ _ 41 rfl w.heap.size 3 i0 _ 1 8 Try.underlying41 hi hz0 hz1 hz2 rfl (by omega) _ l.length (l.map (Value.int .i64)) rfl (own_grow o1 (by repeat (first | exact Grow.refl _ | assumption | refine Grow.alloc ?_ _ | refine Grow.drew ?_ | refine Grow.drewN ?_ _ | refine Grow.trans ?_ (by assumption) | refine Grow.below ?_ (by assumption) (by first | exact Nat.le_refl _ | omega)))) _ 1 1 [.int .i64 (k : Int)] rfl rfl (Cells.block (heap_alloc_new _ _)) (by intro u hu; rw [List.mem_singleton.1 hu]; rfl) (by unfold maxLen; omega) (by omega) (by simp; omega) (l.length + 1) rfl ((l ++ [(k : Int)]).map (Value.int .i64)) (by simp) ?_; intro A3 c3 w3 ho3 _ _ hb3))
        go_roundw
        case rel => exact ⟨k + 1, l ++ [(k : Int)], A3, c3, by omega, by go_num, HV, by rw [List.length_append]; simp; omega, by simp, oints_snoc ho3, (G.trans (by repeat (first | exact Grow.refl _ | assumption | refine Grow.alloc ?_ _ | refine Grow.drew ?_ | refine Grow.drewN ?_ _ | refine Grow.trans ?_ (by assumption) | refine Grow.below ?_ (by assumption) (by first | exact Nat.le_refl _ | omega)))).below hb3 (Nat.le_refl _)⟩
        case measure => simp [intOf]; omega
      | false =>
        rw [hp] at q0
        have HV := Lib.hid (show l.length = Pl.cnt p (k + 1 - 1) by rw [HL.out, cntP_no hp])
        clear hp
        go_wp2_with fail
        go_roundw
        case rel => exact ⟨k + 1, l, A1, c1, by omega, by go_num, HV, by omega, rfl, o1, G⟩
        case measure => simp [intOf]; omega
    · have hk2 : ¬ (k : Int) < 9 := by omega
      have HV := Lib.hid (show l.length = Pl.cnt p 8 by rw [HL.out, show k - 1 = 8 by omega])
      go_wp2_with fail
      go_ret
      exact ⟨A1, c1, l.length, rfl, HV.out, G⟩

set_option maxRecDepth 100000 in
set_option maxHeartbeats 3200000 in
theorem l4Part_c (A B A9 B9 : Option Addr) (c d c9 d9 : Nat) (s : Pl.St) (a : Pl.Asr) (w : World) (hS : Sts w A B s) (hT : Asrs w A9 B9 a) (hs : Pl.stv s = true) (ha : Pl.asv a = true) :
    Calls Try.prog 91 #[sval A B c d s, asval A9 B9 c9 d9 a] w fun e w' => RFlg w (Pl.partP s a) e w' ∧ Grow w w' := by
  obtain ⟨v, h⟩ := s
  obtain ⟨fl, al⟩ := a
  have hv8 := Lib.hid (show v.length = 8 from Pl.stv_v hs)
  have hh8 := Lib.hid (show h.length = 8 from Pl.stv_h hs)
  have hl12 := Pl.asv_len ha
  replace hl12 : fl.length ≤ 12 ∧ al.length ≤ 6 := hl12
  obtain ⟨h3, h4⟩ := hl12
  obtain ⟨R, hR⟩ : ∃ R, R = Pl.partP ⟨v, h⟩ ⟨fl, al⟩ := ⟨_, rfl⟩
  rw [← hR]
  have HR := Lib.hid hR
  have HA := Lib.hid hs
  have HB := Lib.hid ha
  have hfv : ∀ f ∈ fl, Pl.fv f = true := ((Pl.fsv_iff _).1 ((Pl.asv_iff _).1 ha).1).2
  have CH : ∀ W, Grow w W → Calls Try.prog 97 #[.slice A9 fl.length c9, .slice A v.length c] W fun e w' => e = .returned (.bool (Pl.holdB fl v)) ∧ Grow W w' := fun W hg => by
    have := l1Hold_c A9 A c9 c fl v W ((show Facts w A9 fl from hT.v).grow hg) ((show Ints w A v from hS.v).grow hg) (by omega) hv8.out hfv
    rw [hv8.out]; exact this
  clear hR hs ha hfv
  have hmk := madeB9
  have o0 := own_flg9 ((w.alloc (.cells #[.slice A v.length c, .slice B h.length d] 43)).alloc (.cells #[.slice A9 fl.length c9, .slice B9 al.length d9] 30))
  simp only [World.size_alloc] at o0
  have y1 := (Box2.new w 43 (.slice A v.length c) (.slice B h.length d)).grow (show Grow _ (((w.alloc (.cells #[.slice A v.length c, .slice B h.length d] 43)).alloc (.cells #[.slice A9 fl.length c9, .slice B9 al.length d9] 30)).alloc (.cells (madeCells #[.bool false] 9) 4)) from Grow.alloc (Grow.alloc (Grow.refl _) _) _)
  have y2 := (Box2.new (w.alloc (.cells #[.slice A v.length c, .slice B h.length d] 43)) 30 (.slice A9 fl.length c9) (.slice B9 al.length d9)).grow (show Grow _ (((w.alloc (.cells #[.slice A v.length c, .slice B h.length d] 43)).alloc (.cells #[.slice A9 fl.length c9, .slice B9 al.length d9] 30)).alloc (.cells (madeCells #[.bool false] 9) 4)) from Grow.alloc (Grow.refl _) _)
  have G : Grow w (((w.alloc (.cells #[.slice A v.length c, .slice B h.length d] 43)).alloc (.cells #[.slice A9 fl.length c9, .slice B9 al.length d9] 30)).alloc (.cells (madeCells #[.bool false] 9) 4)) := (by repeat (first | exact Grow.refl _ | assumption | refine Grow.alloc ?_ _ | refine Grow.drew ?_ | refine Grow.drewN ?_ _ | refine Grow.trans ?_ (by assumption) | refine Grow.below ?_ (by assumption) (by first | exact Nat.le_refl _ | omega)))
  simp only [World.size_alloc] at y2
  go_enter Try.func91, Try.ntmps91
  obtain ⟨k0, k1, _, _⟩ := y1.facts
  obtain ⟨q0, q1, _, _⟩ := y2.facts
  go_wp2_with fail
  clear hmk
  generalize ((w.alloc (.cells #[.slice A v.length c, .slice B h.length d] 43)).alloc (.cells #[.slice A9 fl.length c9, .slice B9 al.length d9] 30)).alloc (.cells (madeCells #[.bool false] 9) 4) = w0 at *
  refine (CH _ G).mono ?_
  rintro e w1 ⟨rfl, g1⟩
  clear k0 k1 q0 q1 CH
  replace y1 := y1.grow g1
  replace y2 := y2.grow g1
  replace G := G.trans g1
  replace o0 : OFlg w1 (w.heap.size + 1 + 1) (some ⟨w.heap.size + 1 + 1, 0, none⟩) 9 9 fun _ => false := own_grow o0 g1
  clear g1
  cases hb : Pl.holdB fl v with
  | false =>
    have HX := Lib.hid (HR.out.trans (partP_no3 hb))
    clear hb
    go_wp2_with fail
    go_ret2
    exact ⟨RFlg.no HX.out rfl, G⟩
  | true =>
    have HX := Lib.hid (show Pl.cellsP ⟨v, h⟩ al Pl.noP = R from (HR.out.trans (partP_go HA.out HB.out hb)).symm)
    clear hb
    have HAV := Lib.hid (((Pl.asv_iff _).1 HB.out).2.2)
    go_wp2_with fail
    go_loopw [7] (fun i wr => ∃ (k : Nat) (p : Int → Bool), k ≤ al.length ∧ i = .int .i64 k ∧ Hid (Pl.cellsP ⟨v, h⟩ (al.drop k) p = R) ∧ Grow w wr ∧ Box2 wr w.heap.size 43 (.slice A v.length c) (.slice B h.length d) ∧ Box2 wr (w.heap.size + 1) 30 (.slice A9 fl.length c9) (.slice B9 al.length d9) ∧ OFlg wr (w.heap.size + 1 + 1) (some ⟨w.heap.size + 1 + 1, 0, none⟩) 9 9 p) (fun i _ => al.length - (intOf i).toNat)
    case atStart => exact ⟨0, Pl.noP, Nat.zero_le _, rfl, HX, G, y1, y2, o0.congr (fun t _ => rfl)⟩
    case round =>
      clear G y1 y2 o0 HX
      obtain ⟨k, p, hk, rfl, HP, G, y1, y2, o0⟩ := hrel
      obtain ⟨q0, q1, _, _⟩ := y2.facts
      have hzr := World.block_lt_of_cell? wr _ (o0.at_ (j := 0) (by omega))
      replace hzr : w.heap.size + 1 + 1 < wr.heap.size := hzr
      by_cases hlt : k < al.length
      · obtain ⟨b, off, hB9, c0, c1, c2⟩ := ((show Atoms w B9 al from hT.h).grow G).at_ hlt
        subst hB9
        have HD := Lib.hid (show Pl.cellsP ⟨v, h⟩ (al[k] :: al.drop (k + 1)) p = R by rw [← drop_at hlt]; exact HP.out)
        have HV := Lib.hid (HAV.out al[k] (List.getElem_mem hlt))
        obtain ⟨l, bb, hW⟩ : ∃ l b, Pl.l4R ⟨v, h⟩ al[k] = (l, b) := ⟨_, _, rfl⟩
        have HL := Lib.hid hW
        have hll : l.length ≤ 8 := by have := Pl.l4R_len ⟨v, h⟩ al[k]; rw [hW] at this; exact this
        have CA : ∀ W, Grow w W → Calls Try.prog 59 #[.agg #[.slice A v.length c, .slice B h.length d], .agg #[.int .i64 al[k].k, .int .i64 al[k].a, .int .i64 al[k].b]] W (RWay W (l, bb)) := fun W hg => by
          rw [← hW]; exact l4Cells_c A B c d ⟨v, h⟩ al[k] W (hS.grow hg) HA.out HV.out
        clear hW
        obtain ⟨k0, k1, _, _⟩ := y1.facts
        have hk2 : (k : Int) < (al.length : Int) := by omega
        have hk3 : (0 : Int) ≤ (k : Int) := by omega
        go_wp2_with fail
        go_cut [8, 9] (fun s1 s2 wx => ∃ (A4 : Option Addr) (c4 : Nat), s1 = .slice A4 l.length c4 ∧ s2 = .bool bb ∧ OInts wx wr.heap.size (.slice A4 l.length c4) l ∧ Grow wr wx)
        case first =>
          go_region_held3 (fun W => W.cell? ⟨w.heap.size, 0, none⟩ = some (.slice A v.length c) ∧ W.cell? ⟨w.heap.size, 1, none⟩ = some (.slice B h.length d) ∧ W.cell? ⟨w.heap.size + 1, 1, none⟩ = some (.slice (some ⟨b, off, none⟩) al.length d9) ∧ W.cell? ⟨b, off + k * 3, none⟩ = some (.int .i64 al[k].k) ∧ W.cell? ⟨b, off + k * 3 + 1, none⟩ = some (.int .i64 al[k].a) ∧ W.cell? ⟨b, off + k * 3 + 2, none⟩ = some (.int .i64 al[k].b))
            (first | (go_keep; done) | (go_split_ands; exact ⟨g4.cell (by assumption), g4.cell (by assumption), g4.cell (by assumption), g4.cell (by assumption), g4.cell (by assumption), g4.cell (by assumption)⟩))
            ((go_at_call 59; (with_reducible refine (CA _ (G.trans (by repeat (first | exact Grow.refl _ | assumption | refine Grow.alloc ?_ _ | refine Grow.drew ?_ | refine Grow.drewN ?_ _ | refine Grow.trans ?_ (by assumption) | refine Grow.below ?_ (by assumption) (by first | exact Nat.le_refl _ | omega))))).mono ?_); rintro e w4 ⟨A4, c4, rfl, o4, g4⟩))
          have q : Grow wr w4 := (by repeat (first | exact Grow.refl _ | assumption | refine Grow.alloc ?_ _ | refine Grow.drew ?_ | refine Grow.drewN ?_ _ | refine Grow.trans ?_ (by assumption) | refine Grow.below ?_ (by assumption) (by first | exact Nat.le_refl _ | omega)))
          have IL : OInts w4 wr.heap.size (.slice A4 l.length c4) l := own_lo o4 (by simp only [World.size_drew]; omega)
          clear o4 g4
          go_wp2_with fail
          go_meet
          case rel => exact ⟨A4, c4, rfl, rfl, IL, q⟩
        case rest =>
          obtain ⟨A4, c4, rfl, rfl, IL, q⟩ := hcut
          clear k0 k1 q0 q1 c0 c1 c2 CA
          replace y1 := y1.grow q
          replace y2 := y2.grow q
          replace G := G.trans q
          replace o0 : OFlg wc (w.heap.size + 1 + 1) (some ⟨w.heap.size + 1 + 1, 0, none⟩) 9 9 p := own_grow o0 q
          clear q
          cases bb with
          | false =>
            have HN := Lib.hid (show R = none from HD.out.symm.trans (cellsP_no HL.out))
            go_wp2_with fail
            go_ret2
            exact ⟨RFlg.no HN.out rfl, G⟩
          | true =>
            have HQ := Lib.hid (show aftP ⟨v, h⟩ (al.drop (k + 1)) (Pl.addP l p) = R from (cellsP_go HL.out).symm.trans HD.out)
            have HH := Lib.hid (Pl.l4R_has HL.out)
            have hwr : w.heap.size + 1 + 1 < wr.heap.size := hzr
            go_wp2_with fail
            go_loopw [10] (fun i wi => ∃ (j : Nat) (p : Int → Bool), j ≤ l.length ∧ i = .int .i64 j ∧ Hid (aftP ⟨v, h⟩ (al.drop (k + 1)) (Pl.addP (l.drop j) p) = R) ∧ Grow w wi ∧ Box2 wi w.heap.size 43 (.slice A v.length c) (.slice B h.length d) ∧ Box2 wi (w.heap.size + 1) 30 (.slice A9 fl.length c9) (.slice (some ⟨b, off, none⟩) al.length d9) ∧ OFlg wi (w.heap.size + 1 + 1) (some ⟨w.heap.size + 1 + 1, 0, none⟩) 9 9 p ∧ OInts wi wr.heap.size (.slice A4 l.length c4) l) (fun i _ => l.length - (intOf i).toNat)
            case atStart => exact ⟨0, p, Nat.zero_le _, rfl, HQ, G, y1, y2, o0, IL⟩
            case round =>
              clear HP HD HQ G y1 y2 o0 IL
              obtain ⟨j, p, hj, rfl, HP, G, y1, y2, o0, IL⟩ := hrel
              by_cases hjt : j < l.length
              · obtain ⟨b2, off2, hA4, c0⟩ := (OInts.ints rfl IL).at_ hjt
                subst hA4
                have har := Pl.has_ad (HH.out l[j] (List.getElem_mem hjt))
                obtain ⟨t, hte⟩ : ∃ t : Nat, l[j] = (t : Int) := ⟨l[j].toNat, by omega⟩
                have ht8 : t ≤ 8 := by omega
                have HD := Lib.hid (show aftP ⟨v, h⟩ (al.drop (k + 1)) (Pl.addP ((t : Int) :: l.drop (j + 1)) p) = R by rw [← hte, ← drop_at hjt]; exact HP.out)
                rw [hte] at c0
                have hjt2 : (j : Int) < (l.length : Int) := by omega
                have hj3 : (0 : Int) ≤ (j : Int) := by omega
                have ht9 : (t : Int) < 9 := by omega
                have ht0 : (0 : Int) ≤ (t : Int) := by omega
                have q0 := o0.at_ (j := t) (by omega)
                clear har hte
                cases hp : p (t : Int) with
                | true =>
                  have HN := Lib.hid (show R = none from HD.out.symm.trans (by rw [addP_no hp]; rfl))
                  rw [hp] at q0
                  clear hp
                  go_wp2_with fail
                  go_ret2
                  exact ⟨RFlg.no HN.out rfl, G⟩
                | false =>
                  have HN := Lib.hid (show aftP ⟨v, h⟩ (al.drop (k + 1)) (Pl.addP (l.drop (j + 1)) fun x => p x || decide (x = (t : Int))) = R by rw [← addP_on hp]; exact HD.out)
                  rw [hp] at q0
                  clear hp
                  have f0 := World.ownsRow.frozenAt o0 t
                  have o1 := addFlg o0 (t := t) (by omega)
                  have IL2 := own_far_lo (p := ⟨w.heap.size + 1 + 1, t, none⟩) IL (by show w.heap.size + 1 + 1 < _; omega) (.bool true)
                  go_wp2_with fail
                  go_roundw
                  case rel => exact ⟨j + 1, _, by omega, by go_num, HN, G.setCell (by show w.heap.size ≤ w.heap.size + 1 + 1; omega) _, y1.far (by show w.heap.size ≠ w.heap.size + 1 + 1; omega) _, y2.far (by show w.heap.size + 1 ≠ w.heap.size + 1 + 1; omega) _, o1, IL2⟩
                  case measure => simp [intOf]; omega
              · have HN := Lib.hid (show Pl.cellsP ⟨v, h⟩ (al.drop (k + 1)) p = R by rw [← HP.out, List.drop_of_length_le (show l.length ≤ j by omega)]; rfl)
                have hjt2 : ¬ (j : Int) < (l.length : Int) := by omega
                go_wp2_with fail
                go_roundw
                case rel => exact ⟨k + 1, p, by omega, by go_num, HN, G, y1, y2, o0⟩
                case measure => simp [intOf]; omega
      · have HN := Lib.hid (show R = some p by rw [← HP.out, List.drop_of_length_le (by omega)]; rfl)
        have hk2 : ¬ (k : Int) < (al.length : Int) := by omega
        go_wp2_with fail
        go_ret2
        exact ⟨RFlg.yes HN.out rfl (own_lo o0 (by omega)), G⟩



set_option maxRecDepth 100000 in
set_option maxHeartbeats 1600000 in
theorem l4Holds_c (A B A9 B9 : Option Addr) (c d c9 d9 : Nat) (s : Pl.St) (a : Pl.Asr) (w : World) (hS : Sts w A B s) (hT : Asrs w A9 B9 a) (hs : Pl.stv s = true) (ha : Pl.asv a = true) :
    Calls Try.prog 66 #[sval A B c d s, asval A9 B9 c9 d9 a] w fun e w' => e = .returned (.bool (Pl.holdsB s a)) ∧ Grow w w' := by
  obtain ⟨v, h⟩ := s
  obtain ⟨fl, al⟩ := a
  have h1 : v.length ≤ 4194304 := by have : v.length = 8 := Pl.stv_v hs; omega
  have h2 : h.length ≤ 4194304 := by have : h.length = 8 := Pl.stv_h hs; omega
  have HS := Lib.hid hs
  have HV := Lib.hid ha
  clear hs ha
  have y1 := (Box2.new w 43 (.slice A v.length c) (.slice B h.length d)).grow (show Grow _ ((w.alloc (.cells #[.slice A v.length c, .slice B h.length d] 43)).alloc (.cells #[.slice A9 fl.length c9, .slice B9 al.length d9] 30)) from Grow.alloc (Grow.refl _) _)
  have y2 := Box2.new (w.alloc (.cells #[.slice A v.length c, .slice B h.length d] 43)) 30 (.slice A9 fl.length c9) (.slice B9 al.length d9)
  have G : Grow w ((w.alloc (.cells #[.slice A v.length c, .slice B h.length d] 43)).alloc (.cells #[.slice A9 fl.length c9, .slice B9 al.length d9] 30)) := (by repeat (first | exact Grow.refl _ | assumption | refine Grow.alloc ?_ _ | refine Grow.drew ?_ | refine Grow.drewN ?_ _ | refine Grow.trans ?_ (by assumption) | refine Grow.below ?_ (by assumption) (by first | exact Nat.le_refl _ | omega)))
  simp only [World.size_alloc] at y2
  go_enter Try.func66, Try.ntmps66
  obtain ⟨k0, k1, _, _⟩ := y1.facts
  obtain ⟨q0, q1, _, _⟩ := y2.facts
  go_wp2_with fail
  generalize (w.alloc (.cells #[.slice A v.length c, .slice B h.length d] 43)).alloc (.cells #[.slice A9 fl.length c9, .slice B9 al.length d9] 30) = w0 at *
  refine (l4Part_c A B A9 B9 c d c9 d9 ⟨v, h⟩ ⟨fl, al⟩ _ (hS.grow G) (hT.grow G) HS.out HV.out).mono ?_
  rintro e w1 ⟨hr, g1⟩
  clear k0 k1 q0 q1 y2
  replace y1 := y1.grow g1
  replace G := G.trans g1
  cases hp : Pl.partP ⟨v, h⟩ ⟨fl, al⟩ with
  | none =>
    rw [hp] at hr
    obtain ⟨g, cg, rfl⟩ : ∃ g c, e = .returned (.tuple #[.slice (some ⟨g, 0, none⟩) 9 c, .bool false]) := hr
    have HX := Lib.hid (Pl.holdsB_none hp)
    clear hp g1
    go_wp2_with fail
    go_cut [4] (fun s1 wx => s1 = Value.bool false ∧ Grow w1 wx)
    case first =>
      first | (go_region_with (fail)) | fail
      all_goals
        go_wp2_with fail
        go_meet
        case rel => exact ⟨rfl, (by repeat (first | exact Grow.refl _ | assumption | refine Grow.alloc ?_ _ | refine Grow.drew ?_ | refine Grow.drewN ?_ _ | refine Grow.trans ?_ (by assumption) | refine Grow.below ?_ (by assumption) (by first | exact Nat.le_refl _ | omega)))⟩
    case rest =>
      obtain ⟨rfl, q⟩ := hcut
      go_wp2_with fail
      go_ret
      exact ⟨by rw [HX.out]; rfl, G.trans q⟩
  | some p =>
    rw [hp] at hr
    obtain ⟨g, cg, rfl, oF⟩ : ∃ g c, e = .returned (.tuple #[.slice (some ⟨g, 0, none⟩) 9 c, .bool true]) ∧ OFlg w1 w0.heap.size (some ⟨g, 0, none⟩) c 9 p := hr
    have HX := Lib.hid (show ((Pl.cnt p 8 : Int) == ((Pl.usedC ⟨v, h⟩).length : Int)) = Pl.holdsB ⟨v, h⟩ ⟨fl, al⟩ by
      rw [Pl.holdsB_cnt hp, show Pl.usedC ⟨v, h⟩ = Pl.usedTo h 8 by unfold Pl.usedC; rw [HS.out]; rfl, Bool.eq_iff_iff, beq_iff_eq, decide_eq_true_iff]
      show _ ↔ Pl.cnt p 8 = (Pl.usedTo h 8).length
      omega)
    have hp0 : p 0 = false := by
      cases hq : p 0 with
      | false => rfl
      | true =>
        have := Pl.partP_sub hp _ hq
        rw [show Pl.hasB (Pl.St.h ⟨v, h⟩) 0 = false from by rw [Pl.hasB_false, Pl.cont_out (by decide)]; omega] at this
        cases this
    have C1 : ∀ W, Grow w1 W → Calls Try.prog 92 #[.slice (some ⟨g, 0, none⟩) 9 cg] W fun e w' => ∃ (A : Option Addr) (c n : Nat), e = .returned (.slice A n c) ∧ n = Pl.cnt p 8 ∧ Grow W w' := fun W hg => l3List_c g cg w0.heap.size p W (own_grow oF hg) hp0
    have C2 : ∀ W, Grow w1 W → Calls Try.prog 93 #[.agg #[.slice A v.length c, .slice B h.length d]] W (ROut W (Pl.usedC ⟨v, h⟩)) := fun W hg => sUsedCells_c A B c d ⟨v, h⟩ W (hS.grow (G.trans hg)) h1 h2
    clear hp g1 hp0
    generalize Pl.usedC ⟨v, h⟩ = ul at *
    generalize Pl.cnt p 8 = n at *
    obtain ⟨k0, k1, _, _⟩ := y1.facts
    go_wp2_with fail
    go_cut [4] (fun s1 wx => s1 = Value.bool ((n : Int) == (ul.length : Int)) ∧ Grow w1 wx)
    case first =>
      first | (go_region_with (first
        | (go_at_call 92; (with_reducible refine (C1 _ (by repeat (first | exact Grow.refl _ | assumption | refine Grow.alloc ?_ _ | refine Grow.drew ?_ | refine Grow.drewN ?_ _ | refine Grow.trans ?_ (by assumption) | refine Grow.below ?_ (by assumption) (by first | exact Nat.le_refl _ | omega)))).mono ?_); rintro e w3 ⟨A3, c3, n3, rfl, rfl, g3⟩; replace k0 := g3.cell k0; replace k1 := g3.cell k1)
        | (go_at_call 93; (with_reducible refine (C2 _ (by repeat (first | exact Grow.refl _ | assumption | refine Grow.alloc ?_ _ | refine Grow.drew ?_ | refine Grow.drewN ?_ _ | refine Grow.trans ?_ (by assumption) | refine Grow.below ?_ (by assumption) (by first | exact Nat.le_refl _ | omega)))).mono ?_); rintro e w4 ⟨A4, c4, rfl, o4, g4⟩; replace k0 := g4.cell k0; replace k1 := g4.cell k1))) | fail
      all_goals
        go_wp2_with fail
        go_meet
        case rel => exact ⟨rfl, (by repeat (first | exact Grow.refl _ | assumption | refine Grow.alloc ?_ _ | refine Grow.drew ?_ | refine Grow.drewN ?_ _ | refine Grow.trans ?_ (by assumption) | refine Grow.below ?_ (by assumption) (by first | exact Nat.le_refl _ | omega)))⟩
    case rest =>
      obtain ⟨rfl, q⟩ := hcut
      go_wp2_with fail
      go_ret
      exact ⟨by rw [← HX.out]; rfl, G.trans q⟩

set_option maxRecDepth 100000 in
set_option maxHeartbeats 1600000 in
theorem sHolds_c (A B A9 B9 : Option Addr) (c d c9 d9 : Nat) (s : Pl.St) (a : Pl.Asr) (w : World) (hS : Sts w A B s) (hT : Asrs w A9 B9 a) (h1 : s.v.length ≤ 4194304) (h2 : s.h.length ≤ 4194304) (h3 : a.f.length ≤ 4194304) (h4 : a.a.length ≤ 4194304) :
    Calls Try.prog 25 #[sval A B c d s, asval A9 B9 c9 d9 a] w fun e w' => e = .returned (.bool (Pl.holdsB s a)) ∧ Grow w w' := by
  obtain ⟨v, h⟩ := s
  obtain ⟨fl, al⟩ := a
  have y1 := (Box2.new w 43 (.slice A v.length c) (.slice B h.length d)).grow (show Grow _ ((w.alloc (.cells #[.slice A v.length c, .slice B h.length d] 43)).alloc (.cells #[.slice A9 fl.length c9, .slice B9 al.length d9] 30)) from Grow.alloc (Grow.refl _) _)
  have y2 := Box2.new (w.alloc (.cells #[.slice A v.length c, .slice B h.length d] 43)) 30 (.slice A9 fl.length c9) (.slice B9 al.length d9)
  have G : Grow w ((w.alloc (.cells #[.slice A v.length c, .slice B h.length d] 43)).alloc (.cells #[.slice A9 fl.length c9, .slice B9 al.length d9] 30)) := (by repeat (first | exact Grow.refl _ | assumption | refine Grow.alloc ?_ _ | refine Grow.drew ?_ | refine Grow.drewN ?_ _ | refine Grow.trans ?_ (by assumption) | refine Grow.below ?_ (by assumption) (by first | exact Nat.le_refl _ | omega)))
  simp only [World.size_alloc] at y2
  go_enter Try.func25, Try.ntmps25
  obtain ⟨k0, k1, _, _⟩ := y1.facts
  obtain ⟨q0, q1, _, _⟩ := y2.facts
  go_wp2_with fail
  generalize (w.alloc (.cells #[.slice A v.length c, .slice B h.length d] 43)).alloc (.cells #[.slice A9 fl.length c9, .slice B9 al.length d9] 30) = w0 at *
  refine (sStateValid_c A B c d ⟨v, h⟩ _ (hS.grow G) h1 h2).mono ?_
  rintro e w1 ⟨rfl, g1⟩
  clear k0 k1 q0 q1
  replace y1 := y1.grow g1
  replace y2 := y2.grow g1
  replace G := G.trans g1
  clear g1
  cases ha : Pl.stv ⟨v, h⟩ with
  | false =>
    have HX := Lib.hid (Pl.holdsB_none (partP_no1 (a := ⟨fl, al⟩) ha))
    clear ha
    go_wp2_with fail
    go_ret
    exact ⟨by rw [HX.out]; rfl, G⟩
  | true =>
    have HA := Lib.hid ha
    clear ha
    obtain ⟨q0, q1, _, _⟩ := y2.facts
    go_wp2_with fail
    refine (sAssertionValid_c A9 B9 c9 d9 ⟨fl, al⟩ _ (hT.grow G) h3 h4).mono ?_
    rintro e w2 ⟨rfl, g2⟩
    clear q0 q1
    replace y1 := y1.grow g2
    replace y2 := y2.grow g2
    replace G := G.trans g2
    clear g2
    cases ha : Pl.asv ⟨fl, al⟩ with
    | false =>
      have HX := Lib.hid (Pl.holdsB_none (partP_no2 (s := ⟨v, h⟩) ha))
      clear ha
      go_wp2_with fail
      go_ret
      exact ⟨by rw [HX.out]; rfl, G⟩
    | true =>
      have HB := Lib.hid ha
      clear ha
      obtain ⟨k0, k1, _, _⟩ := y1.facts
      obtain ⟨q0, q1, _, _⟩ := y2.facts
      go_wp2_with fail
      refine (l4Holds_c A B A9 B9 c d c9 d9 ⟨v, h⟩ ⟨fl, al⟩ _ (hS.grow G) (hT.grow G) HA.out HB.out).mono ?_
      rintro e w3 ⟨rfl, g3⟩
      go_wp2_with fail
      go_ret
      exact ⟨rfl, G.trans g3⟩

end Go.Proofs.Ytlcijjbeikoppaa
