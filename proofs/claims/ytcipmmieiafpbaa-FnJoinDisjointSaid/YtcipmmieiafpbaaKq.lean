/- Contracts of keeping and dropping cells of a state in the reference. Conditions: the lengths are far from Go's bounds. -/
import Derived.Test.YtcipmmieiafpbaaKp
import Derived.Deep.RegionWith
namespace Go.Proofs.Ytcipmmieiafpbaa
open Go.RowKit
set_option linter.unusedVariables false

/-- What a choice of cells gives in the reference. -/
def RFlg (w : World) (r : Option (Int → Bool)) (e : Ending) (w' : World) : Prop := match r with
  | none => ∃ g c, e = .returned (.tuple #[.slice (some ⟨g, 0, none⟩) 9 c, .bool false])
  | some p => ∃ g c, e = .returned (.tuple #[.slice (some ⟨g, 0, none⟩) 9 c, .bool true]) ∧ OFlg w' w.heap.size (some ⟨g, 0, none⟩) c 9 p
theorem RFlg.no {w w' : World} {r : Option (Int → Bool)} {e : Ending} {g c : Nat} (h : r = none) (he : e = .returned (.tuple #[.slice (some ⟨g, 0, none⟩) 9 c, .bool false])) : RFlg w r e w' := by subst h; exact ⟨g, c, he⟩
theorem RFlg.yes {w w' : World} {r : Option (Int → Bool)} {p : Int → Bool} {e : Ending} {g c : Nat} (h : r = some p) (he : e = .returned (.tuple #[.slice (some ⟨g, 0, none⟩) 9 c, .bool true])) (ho : OFlg w' w.heap.size (some ⟨g, 0, none⟩) c 9 p) : RFlg w r e w' := by subst h; exact ⟨g, c, he, ho⟩

set_option maxRecDepth 100000 in
set_option maxHeartbeats 1600000 in
theorem l4Flags_c (A B A9 : Option Addr) (c d c9 : Nat) (s : Pl.St) (l : List Int) (w : World) (hS : Sts w A B s) (hs : Pl.stv s = true) (hL : Ints w A9 l) (hl : l.length ≤ 4194304) :
    Calls Try.prog 53 #[sval A B c d s, .slice A9 l.length c9] w fun e w' => RFlg w (Pl.chosenP s l) e w' ∧ Grow w w' := by
  obtain ⟨v, h⟩ := s
  obtain ⟨R, hR⟩ : ∃ R, R = Pl.chosenP ⟨v, h⟩ l := ⟨_, rfl⟩
  rw [← hR]
  have HX := Lib.hid (show Pl.chosenP.chP h l Pl.noP = R by rw [hR]; unfold Pl.chosenP; rw [hs]; rfl)
  have hh8 := Lib.hid (show h.length = 8 from Pl.stv_h hs)
  have IB : Ints w B h := hS.h
  clear hR hs hS
  have hmk := madeB9
  have o0 := own_flg9 (w.alloc (.cells #[.slice A v.length c, .slice B h.length d] 30))
  simp only [World.size_alloc] at o0
  have y0 := (Box2.new w 30 (.slice A v.length c) (.slice B h.length d)).grow (show Grow _ ((w.alloc (.cells #[.slice A v.length c, .slice B h.length d] 30)).alloc (.cells (madeCells #[.bool false] 9) 4)) from Grow.alloc (Grow.refl _) _)
  have g0 : Grow w ((w.alloc (.cells #[.slice A v.length c, .slice B h.length d] 30)).alloc (.cells (madeCells #[.bool false] 9) 4)) := (by repeat (first | exact Grow.refl _ | assumption | refine Grow.alloc ?_ _ | refine Grow.drew ?_ | refine Grow.drewN ?_ _ | refine Grow.trans ?_ (by assumption) | refine Grow.below ?_ (by assumption) (by first | exact Nat.le_refl _ | omega)))
  go_enter Try.func53, Try.ntmps53
  go_wp2_with fail
  clear hmk
  generalize (w.alloc (.cells #[.slice A v.length c, .slice B h.length d] 30)).alloc (.cells (madeCells #[.bool false] 9) 4) = w0 at *
  go_loopw [7] (fun i wr => ∃ (k : Nat) (p : Int → Bool), k ≤ l.length ∧ i = .int .i64 k ∧ Hid (Pl.chosenP.chP h (l.drop k) p = R) ∧ Grow w wr ∧ Box2 wr w.heap.size 30 (.slice A v.length c) (.slice B h.length d) ∧ OFlg wr (w.heap.size + 1) (some ⟨w.heap.size + 1, 0, none⟩) 9 9 p) (fun i _ => l.length - (intOf i).toNat)
  case atStart => exact ⟨0, Pl.noP, Nat.zero_le _, rfl, HX, g0, y0, o0.congr (fun t _ => rfl)⟩
  case round =>
    clear g0 y0 o0 HX
    obtain ⟨k, p, hk, rfl, HP, G, y0, o0⟩ := hrel
    by_cases hlt : k < l.length
    · obtain ⟨b, off, hA9, c0'⟩ := hL.at_ hlt
      subst hA9
      have hbw : b < w.heap.size := World.block_lt_of_cell? w _ c0'
      have c0 := G.cell c0'
      obtain ⟨k0, k1, _, _⟩ := y0.facts
      have hk2 : (k : Int) < (l.length : Int) := by omega
      have hk3 : (0 : Int) ≤ (k : Int) := by omega
      have HD := Lib.hid (show Pl.chosenP.chP h (l[k] :: l.drop (k + 1)) p = R by rw [← drop_at hlt]; exact HP.out)
      cases hb : Pl.hasB h l[k] with
      | false =>
        have HB := Lib.hid hb
        have HN := Lib.hid (show R = none from HD.out.symm.trans (chP_no1 hb))
        clear hb c0'
        go_wp2_with fail
        first | (go_region_with ((go_at_call 90; refine (l2Has_c A B v.length c d h l[k] _ (IB.grow (G.trans (by repeat (first | exact Grow.refl _ | assumption | refine Grow.alloc ?_ _ | refine Grow.drew ?_ | refine Grow.drewN ?_ _ | refine Grow.trans ?_ (by assumption) | refine Grow.below ?_ (by assumption) (by first | exact Nat.le_refl _ | omega))))) hh8.out).mono ?_; rintro e w2 ⟨rfl, g2⟩; rw [HB.out]))) | fail
        all_goals
          have q : Grow wr w2 := (by repeat (first | exact Grow.refl _ | assumption | refine Grow.alloc ?_ _ | refine Grow.drew ?_ | refine Grow.drewN ?_ _ | refine Grow.trans ?_ (by assumption) | refine Grow.below ?_ (by assumption) (by first | exact Nat.le_refl _ | omega)))
          go_wp2_with fail
          go_ret2
          exact ⟨RFlg.no HN.out rfl, G.trans q⟩
      | true =>
        have HB := Lib.hid hb
        have har := Pl.has_ad hb
        obtain ⟨t, hte⟩ : ∃ t : Nat, l[k] = (t : Int) := ⟨l[k].toNat, by omega⟩
        have ht8 : t ≤ 8 := by omega
        have ht1 : 1 ≤ t := by omega
        have ht9 : (t : Int) < 9 := by omega
        have ht0 : (0 : Int) ≤ (t : Int) := by omega
        have HTE := Lib.hid hte
        have HBT := Lib.hid (show Pl.hasB h (t : Int) = true by rw [← hte]; exact hb)
        rw [hte] at c0 c0'
        have q0 := o0.at_ (j := t) (by omega)
        clear hb har hte
        cases hp : p (t : Int) with
        | true =>
          have HN := Lib.hid (show R = none from HD.out.symm.trans (chP_no2 (by rw [HTE.out]; exact hp)))
          rw [hp] at q0
          clear hp c0'
          go_wp2_with fail
          go_region_held3 (fun W => W.cell? ⟨w.heap.size, 0, none⟩ = some (.slice A v.length c) ∧ W.cell? ⟨w.heap.size, 1, none⟩ = some (.slice B h.length d) ∧ W.cell? ⟨b, off + k, none⟩ = some (.int .i64 (t : Int)) ∧ W.cell? ⟨w.heap.size + 1, t, none⟩ = some (.bool true))
            (first | go_keep | (go_split_ands; exact ⟨g2.cell (by assumption), g2.cell (by assumption), g2.cell (by assumption), g2.cell (by assumption)⟩))
            ((go_at_call 90; refine (l2Has_c A B v.length c d h (t : Int) _ (IB.grow (G.trans (by repeat (first | exact Grow.refl _ | assumption | refine Grow.alloc ?_ _ | refine Grow.drew ?_ | refine Grow.drewN ?_ _ | refine Grow.trans ?_ (by assumption) | refine Grow.below ?_ (by assumption) (by first | exact Nat.le_refl _ | omega))))) hh8.out).mono ?_; rintro e w2 ⟨rfl, g2⟩; rw [HBT.out]))
          have q : Grow wr w2 := (by repeat (first | exact Grow.refl _ | assumption | refine Grow.alloc ?_ _ | refine Grow.drew ?_ | refine Grow.drewN ?_ _ | refine Grow.trans ?_ (by assumption) | refine Grow.below ?_ (by assumption) (by first | exact Nat.le_refl _ | omega)))
          go_wp2_with fail
          go_ret2
          exact ⟨RFlg.no HN.out rfl, G.trans q⟩
        | false =>
          have HN := Lib.hid (show Pl.chosenP.chP h (l.drop (k + 1)) (fun x => p x || decide (x = (t : Int))) = R by rw [← HTE.out]; rw [← HD.out]; exact (chP_on HB.out (by rw [HTE.out]; exact hp)).symm)
          rw [hp] at q0
          clear hp
          go_wp2_with fail
          go_region_held3 (fun W => W.cell? ⟨w.heap.size, 0, none⟩ = some (.slice A v.length c) ∧ W.cell? ⟨w.heap.size, 1, none⟩ = some (.slice B h.length d) ∧ W.cell? ⟨b, off + k, none⟩ = some (.int .i64 (t : Int)) ∧ W.cell? ⟨w.heap.size + 1, t, none⟩ = some (.bool false))
            (first | go_keep | (go_split_ands; exact ⟨g2.cell (by assumption), g2.cell (by assumption), g2.cell (by assumption), g2.cell (by assumption)⟩))
            ((go_at_call 90; refine (l2Has_c A B v.length c d h (t : Int) _ (IB.grow (G.trans (by repeat (first | exact Grow.refl _ | assumption | refine Grow.alloc ?_ _ | refine Grow.drew ?_ | refine Grow.drewN ?_ _ | refine Grow.trans ?_ (by assumption) | refine Grow.below ?_ (by assumption) (by first | exact Nat.le_refl _ | omega))))) hh8.out).mono ?_; rintro e w2 ⟨rfl, g2⟩; rw [HBT.out]))
          have q : Grow wr w2 := (by repeat (first | exact Grow.refl _ | assumption | refine Grow.alloc ?_ _ | refine Grow.drew ?_ | refine Grow.drewN ?_ _ | refine Grow.trans ?_ (by assumption) | refine Grow.below ?_ (by assumption) (by first | exact Nat.le_refl _ | omega)))
          clear k0 k1 q0 c0 g2
          replace G := G.trans q
          replace y0 := y0.grow q
          replace o0 : OFlg w2 (w.heap.size + 1) (some ⟨w.heap.size + 1, 0, none⟩) 9 9 p := own_grow o0 q
          clear q
          have c0 := G.cell c0'
          have q0 := o0.at_ (j := t) (by omega)
          have f0 := World.ownsRow.frozenAt o0 t
          have o1 := (o0.set (j := t) (by omega) true).congr (q := fun x => p x || decide (x = (t : Int))) (fun x _ => by
            by_cases e : (x : Int) = (t : Int)
            · rw [if_pos e, decide_eq_true e, Bool.or_true]
            · rw [if_neg e, decide_eq_false e, Bool.or_false])
          clear c0'
          go_wp2_with fail
          go_roundw
          case rel => exact ⟨k + 1, _, by omega, by go_num, HN, G.setCell (by show w.heap.size ≤ w.heap.size + 1; omega) _, y0.far (by show w.heap.size ≠ w.heap.size + 1; omega) _, o1⟩
          case measure => simp [intOf]; omega
    · have HN := Lib.hid (show R = some p by rw [← HP.out, List.drop_of_length_le (by omega)]; rfl)
      go_wp2_with fail
      go_ret2
      exact ⟨RFlg.yes HN.out rfl (own_lo o0 (by omega)), G⟩

set_option maxRecDepth 100000 in
set_option maxHeartbeats 1600000 in
theorem l4Only_c (A B : Option Addr) (c d g c8 lo : Nat) (s : Pl.St) (p : Int → Bool) (keep : Bool) (w : World) (hS : Sts w A B s) (hs : Pl.stv s = true) (hF : OFlg w lo (some ⟨g, 0, none⟩) c8 9 p) :
    Calls Try.prog 54 #[sval A B c d s, .slice (some ⟨g, 0, none⟩) 9 c8, .bool keep] w (RS1 w ⟨s.v, Pl.onlyTo (fun t => p t == keep) 8 s.h⟩) := by
  obtain ⟨v, h⟩ := s
  have hh8 := Lib.hid (show h.length = 8 from Pl.stv_h hs)
  have h1 : v.length ≤ 4194304 := by have := Pl.stv_v hs; simp only at this; omega
  have h2 : h.length ≤ 4194304 := by have := hh8.out; omega
  obtain ⟨r, hr⟩ : ∃ r : Int → Bool, r = fun t => p t == keep := ⟨_, rfl⟩
  have HR := Lib.hid (show ∀ t, r t = (p t == keep) from fun t => by rw [hr])
  show Calls _ _ _ _ (RS1 w ⟨v, Pl.onlyTo (fun t => p t == keep) 8 h⟩)
  rw [← hr]
  have hFc := fun (j : Nat) (hj : j < 9) => OFlg.at_ hF hj
  have HFC := Lib.hid hFc
  clear hs hr hFc
  have y1 := Box2.new (w.alloc (.cells #[.slice A v.length c, .slice B h.length d] 30)) 30 (.slice none 0 0) (.slice none 0 0)
  simp only [World.size_alloc] at y1
  go_enter Try.func54, Try.ntmps54
  go_wp2_with fail
  refine (l2Copy_c A B c d ⟨v, h⟩ _ (hS.grow (by repeat (first | exact Grow.refl _ | assumption | refine Grow.alloc ?_ _ | refine Grow.drew ?_ | refine Grow.drewN ?_ _ | refine Grow.trans ?_ (by assumption) | refine Grow.below ?_ (by assumption) (by first | exact Nat.le_refl _ | omega)))) h1 h2).mono ?_
  rintro e w1 ⟨A1, B1, c1, d1, rfl, o1, g1⟩
  have G : Grow w w1 := (by repeat (first | exact Grow.refl _ | assumption | refine Grow.alloc ?_ _ | refine Grow.drew ?_ | refine Grow.drewN ?_ _ | refine Grow.trans ?_ (by assumption) | refine Grow.below ?_ (by assumption) (by first | exact Nat.le_refl _ | omega)))
  have hz1 := g1.le
  simp only [World.size_alloc] at hz1 o1
  replace y1 := y1.grow g1
  obtain ⟨gB, rfl, hgl, hgs⟩ := own_some o1.h (by show 0 < h.length; have := hh8.out; omega)
  clear g1 hS
  have y2 := Box2.new w1 30 (.slice A1 v.length c1) (.slice (some ⟨gB, 0, none⟩) h.length d1)
  have q : Grow w1 (w1.alloc (.cells #[.slice A1 v.length c1, .slice (some ⟨gB, 0, none⟩) h.length d1] 30)) := (by repeat (first | exact Grow.refl _ | assumption | refine Grow.alloc ?_ _ | refine Grow.drew ?_ | refine Grow.drewN ?_ _ | refine Grow.trans ?_ (by assumption) | refine Grow.below ?_ (by assumption) (by first | exact Nat.le_refl _ | omega)))
  replace y1 := y1.grow q
  replace o1 := o1.grow q
  replace G := G.trans q
  have hz2 := y2.lt
  clear q
  go_wp2_with fail
  generalize w1.alloc (.cells #[.slice A1 v.length c1, .slice (some ⟨gB, 0, none⟩) h.length d1] 30) = w2 at *
  go_loopw [8] (fun i wr => ∃ (k : Nat) (u : List Int), k ≤ 8 ∧ i = .int .i64 k ∧ Hid (u = Pl.onlyTo r k h) ∧ Grow w wr ∧ w1.heap.size < wr.heap.size ∧ Box2 wr (w.heap.size + 1) 30 (.slice none 0 0) (.slice none 0 0) ∧ Box2 wr w1.heap.size 30 (.slice A1 v.length c1) (.slice (some ⟨gB, 0, none⟩) u.length d1) ∧ OSt wr (w.heap.size + 1 + 1) A1 (some ⟨gB, 0, none⟩) c1 d1 ⟨v, u⟩) (fun i _ => 8 - (intOf i).toNat)
  case atStart => exact ⟨0, h, by omega, rfl, Lib.hid (Pl.onlyTo_zero r h).symm, G, hz2, y1, y2, o1⟩
  case round =>
    clear G y1 y2 o1 hz2
    obtain ⟨k, u, hk, rfl, HU, G, hz2, y1, y2, o1⟩ := hrel
    by_cases hlt : k < 8
    · have hk1 : (k : Int) < 8 := by omega
      have hk2 : (k : Int) + 1 < 9 := by omega
      have q0 : wr.cell? ⟨g, k + 1, none⟩ = some (.bool (p ((k + 1 : Nat) : Int))) := G.cell (HFC.out (k + 1) (by omega))
      cases hpk : r ((k : Int) + 1) with
      | true =>
        have HV := Lib.hid (show u = Pl.onlyTo r (k + 1) h by rw [Pl.onlyTo_keep hpk]; exact HU.out)
        have e1 : p ((k + 1 : Nat) : Int) = keep := by
          have := HR.out ((k : Int) + 1)
          rw [hpk] at this
          rw [show ((k + 1 : Nat) : Int) = (k : Int) + 1 from by omega]
          simpa using this.symm
        rw [e1] at q0
        clear hpk e1 HR
        cases keep
        all_goals
          go_wp2_with fail
          go_roundw
          case rel => exact ⟨k + 1, u, by omega, by go_num, HV, G, hz2, y1, y2, o1⟩
          case measure => simp [intOf]; omega
      | false =>
        have HV := Lib.hid (show u.set k (-1) = Pl.onlyTo r (k + 1) h by rw [Pl.onlyTo_drop hpk, HU.out])
        have hku : k < u.length := by rw [HU.out, Pl.onlyTo_len, hh8.out]; omega
        have hku2 : (k : Int) < (u.length : Int) := by omega
        have e1 : p ((k + 1 : Nat) : Int) = !keep := by
          have := HR.out ((k : Int) + 1)
          rw [hpk] at this
          rw [show ((k + 1 : Nat) : Int) = (k : Int) + 1 from by omega]
          revert this
          cases p ((k : Int) + 1) <;> cases keep <;> simp
        rw [e1] at q0
        clear hpk e1 HR
        obtain ⟨k0, k1, e0, e1⟩ := y2.facts
        obtain ⟨u0, c0⟩ : ∃ x, wr.cell? ⟨gB, k, none⟩ = some x := ⟨_, own_cellAt o1.h (show (u.map (Value.int .i64))[k]? = some (.int .i64 u[k]) by simp [hku])⟩
        have f0 := World.ownsRow.frozenAt o1.h k
        cases keep
        all_goals
          simp only [Bool.not_true, Bool.not_false] at q0
          go_wp2_with fail
          go_roundw
          case rel => exact ⟨k + 1, u.set k (-1), by omega, by go_num, HV, G.setCell (by show w.heap.size ≤ gB; omega) _, by show w1.heap.size < (wr.setCell _ _).heap.size; simp [World.setCell]; omega, y1.far (by show w.heap.size + 1 ≠ gB; omega) _, by rw [List.length_set]; exact y2.far (by show w1.heap.size ≠ gB; omega) _, o1.setH (-1)⟩
          case measure => simp [intOf]; omega
    · have hk8 : 8 ≤ (k : Int) := by omega
      have hk8' : k = 8 := by omega
      have HK := Lib.hid hk8'
      clear hk8'
      obtain ⟨k0, k1, e0, e1⟩ := y2.facts
      obtain ⟨j0, j1, f0, f1⟩ := y1.facts
      go_wp2_with fail
      refine bodyPost_ret (v := .agg #[.slice A1 v.length c1, .slice (some ⟨gB, 0, none⟩) u.length d1]) (by simp [results, Try.results54, go_sem, j0, j1]) rfl ?_
      have hu := HU.out
      rw [HK.out] at hu
      subst hu
      refine ⟨A1, _, c1, d1, rfl, ?_, ?_⟩
      · exact ((o1.far (by show w.heap.size + 1 < _; omega) _).far (by show w.heap.size + 1 < _; omega) _).lo (by omega)
      · exact (G.setCell (by show w.heap.size ≤ w.heap.size + 1; omega) _).setCell (by show w.heap.size ≤ w.heap.size + 1; omega) _

theorem keep_eq (p : Int → Bool) : (fun t => p t == true) = p := by funext t; simp
theorem drop_eq (p : Int → Bool) : (fun t => p t == false) = fun t => !p t := by funext t; cases p t <;> rfl


set_option maxRecDepth 100000 in
set_option maxHeartbeats 800000 in
theorem sKeepCells_c (A B A9 : Option Addr) (c d c9 : Nat) (s : Pl.St) (l : List Int) (w : World) (hS : Sts w A B s) (hL : Ints w A9 l) (h1 : s.v.length ≤ 4194304) (h2 : s.h.length ≤ 4194304) (hl : l.length ≤ 4194304) :
    Calls Try.prog 22 #[sval A B c d s, .slice A9 l.length c9] w (RSt w (Pl.keepR s l)) := by
  obtain ⟨v, h⟩ := s
  have y0 := Box2.new w 30 (.slice A v.length c) (.slice B h.length d)
  have y1 := Box2.new (w.alloc (.cells #[.slice A v.length c, .slice B h.length d] 30)) 30 (.slice none 0 0) (.slice none 0 0)
  simp only [World.size_alloc] at y1
  go_enter Try.func22, Try.ntmps22
  go_wp2_with fail
  refine (sStateValid_c A B c d ⟨v, h⟩ _ (hS.grow (by repeat (first | exact Grow.refl _ | assumption | refine Grow.alloc ?_ _ | refine Grow.drew ?_ | refine Grow.drewN ?_ _ | refine Grow.trans ?_ (by assumption) | refine Grow.below ?_ (by assumption) (by first | exact Nat.le_refl _ | omega)))) h1 h2).mono ?_
  rintro e w1 ⟨rfl, g1⟩
  replace y0 := y0.grow (show Grow _ w1 from (by repeat (first | exact Grow.refl _ | assumption | refine Grow.alloc ?_ _ | refine Grow.drew ?_ | refine Grow.drewN ?_ _ | refine Grow.trans ?_ (by assumption) | refine Grow.below ?_ (by assumption) (by first | exact Nat.le_refl _ | omega))))
  have G : Grow w w1 := (by repeat (first | exact Grow.refl _ | assumption | refine Grow.alloc ?_ _ | refine Grow.drew ?_ | refine Grow.drewN ?_ _ | refine Grow.trans ?_ (by assumption) | refine Grow.below ?_ (by assumption) (by first | exact Nat.le_refl _ | omega)))
  replace y1 := y1.grow g1
  clear g1
  obtain ⟨j0, j1, f0, f1⟩ := y1.facts
  cases hs : Pl.stv ⟨v, h⟩ with
  | false =>
    have HX := Lib.hid (Pl.keepR_none (s := ⟨v, h⟩) (l := l) (by unfold Pl.chosenP; rw [hs]; rfl))
    clear hs
    go_wp2_with fail
    refine bodyPost_ret (v := .tuple #[.agg #[.slice none 0 0, .slice none 0 0], .bool false]) (by simp [results, Try.results22, go_sem, j0, j1]) rfl (RSt.no HX.out rfl ?_)
    exact (G.setCell (by show w.heap.size ≤ w.heap.size + 1; omega) _).setCell (by show w.heap.size ≤ w.heap.size + 1; omega) _
  | true =>
    have HS := Lib.hid hs
    clear hs j0 j1 f0 f1
    obtain ⟨k0, k1, _, _⟩ := y0.facts
    go_wp2_with fail
    refine (l4Flags_c A B A9 c d c9 ⟨v, h⟩ l _ (hS.grow G) HS.out (hL.grow G) hl).mono ?_
    rintro e w2 ⟨hr, g2⟩
    clear k0 k1
    replace G := G.trans g2
    replace y0 := y0.grow g2
    replace y1 := y1.grow g2
    obtain ⟨j0, j1, f0, f1⟩ := y1.facts
    cases hc : Pl.chosenP ⟨v, h⟩ l with
    | none =>
      rw [hc] at hr
      have HX := Lib.hid (Pl.keepR_none hc)
      obtain ⟨gF, cF, rfl⟩ : ∃ g c, e = .returned (.tuple #[.slice (some ⟨g, 0, none⟩) 9 c, .bool false]) := hr
      clear hc
      go_wp2_with fail
      refine bodyPost_ret (v := .tuple #[.agg #[.slice none 0 0, .slice none 0 0], .bool false]) (by simp [results, Try.results22, go_sem, j0, j1]) rfl (RSt.no HX.out rfl ?_)
      exact (G.setCell (by show w.heap.size ≤ w.heap.size + 1; omega) _).setCell (by show w.heap.size ≤ w.heap.size + 1; omega) _
    | some p =>
      rw [hc] at hr
      have HX := Lib.hid (Pl.keepR_some hc)
      obtain ⟨gF, cF, rfl, hF⟩ : ∃ g c, e = .returned (.tuple #[.slice (some ⟨g, 0, none⟩) 9 c, .bool true]) ∧ OFlg w2 w1.heap.size (some ⟨g, 0, none⟩) c 9 p := hr
      obtain ⟨k0, k1, _, _⟩ := y0.facts
      have hlw := y1.lt
      have hz1 := G.le
      clear hc j0 j1 f0 f1
      go_wp2_with fail
      refine (l4Only_c A B c d gF cF _ ⟨v, h⟩ p true _ (hS.grow G) HS.out hF).mono ?_
      rintro e w3 ⟨A2, B2, c2, d2, rfl, o2, g3⟩
      rw [keep_eq] at o2
      replace y1 := y1.grow g3
      obtain ⟨j0, j1, f0, f1⟩ := y1.facts
      clear k0 k1
      go_wp2_with fail
      refine bodyPost_ret (v := .tuple #[.agg #[.slice A2 v.length c2, .slice B2 (Pl.onlyTo (fun t => p t == true) 8 h).length d2], .bool true]) (by simp [results, Try.results22, go_sem, j0, j1]) rfl ?_
      rw [HX.out]
      exact ⟨A2, B2, c2, d2, by rw [keep_eq], ((o2.far (by show w.heap.size + 1 < _; omega) _).far (by show w.heap.size + 1 < _; omega) _).lo (by omega), ((G.trans g3).setCell (by show w.heap.size ≤ w.heap.size + 1; omega) _).setCell (by show w.heap.size ≤ w.heap.size + 1; omega) _⟩

set_option maxRecDepth 100000 in
set_option maxHeartbeats 800000 in
theorem sDropCells_c (A B A9 : Option Addr) (c d c9 : Nat) (s : Pl.St) (l : List Int) (w : World) (hS : Sts w A B s) (hL : Ints w A9 l) (h1 : s.v.length ≤ 4194304) (h2 : s.h.length ≤ 4194304) (hl : l.length ≤ 4194304) :
    Calls Try.prog 26 #[sval A B c d s, .slice A9 l.length c9] w (RSt w (Pl.dropR s l)) := by
  obtain ⟨v, h⟩ := s
  have y0 := Box2.new w 30 (.slice A v.length c) (.slice B h.length d)
  have y1 := Box2.new (w.alloc (.cells #[.slice A v.length c, .slice B h.length d] 30)) 30 (.slice none 0 0) (.slice none 0 0)
  simp only [World.size_alloc] at y1
  go_enter Try.func26, Try.ntmps26
  go_wp2_with fail
  refine (sStateValid_c A B c d ⟨v, h⟩ _ (hS.grow (by repeat (first | exact Grow.refl _ | assumption | refine Grow.alloc ?_ _ | refine Grow.drew ?_ | refine Grow.drewN ?_ _ | refine Grow.trans ?_ (by assumption) | refine Grow.below ?_ (by assumption) (by first | exact Nat.le_refl _ | omega)))) h1 h2).mono ?_
  rintro e w1 ⟨rfl, g1⟩
  replace y0 := y0.grow (show Grow _ w1 from (by repeat (first | exact Grow.refl _ | assumption | refine Grow.alloc ?_ _ | refine Grow.drew ?_ | refine Grow.drewN ?_ _ | refine Grow.trans ?_ (by assumption) | refine Grow.below ?_ (by assumption) (by first | exact Nat.le_refl _ | omega))))
  have G : Grow w w1 := (by repeat (first | exact Grow.refl _ | assumption | refine Grow.alloc ?_ _ | refine Grow.drew ?_ | refine Grow.drewN ?_ _ | refine Grow.trans ?_ (by assumption) | refine Grow.below ?_ (by assumption) (by first | exact Nat.le_refl _ | omega)))
  replace y1 := y1.grow g1
  clear g1
  obtain ⟨j0, j1, f0, f1⟩ := y1.facts
  cases hs : Pl.stv ⟨v, h⟩ with
  | false =>
    have HX := Lib.hid (Pl.dropR_none (s := ⟨v, h⟩) (l := l) (by unfold Pl.chosenP; rw [hs]; rfl))
    clear hs
    go_wp2_with fail
    refine bodyPost_ret (v := .tuple #[.agg #[.slice none 0 0, .slice none 0 0], .bool false]) (by simp [results, Try.results26, go_sem, j0, j1]) rfl (RSt.no HX.out rfl ?_)
    exact (G.setCell (by show w.heap.size ≤ w.heap.size + 1; omega) _).setCell (by show w.heap.size ≤ w.heap.size + 1; omega) _
  | true =>
    have HS := Lib.hid hs
    clear hs j0 j1 f0 f1
    obtain ⟨k0, k1, _, _⟩ := y0.facts
    go_wp2_with fail
    refine (l4Flags_c A B A9 c d c9 ⟨v, h⟩ l _ (hS.grow G) HS.out (hL.grow G) hl).mono ?_
    rintro e w2 ⟨hr, g2⟩
    clear k0 k1
    replace G := G.trans g2
    replace y0 := y0.grow g2
    replace y1 := y1.grow g2
    obtain ⟨j0, j1, f0, f1⟩ := y1.facts
    cases hc : Pl.chosenP ⟨v, h⟩ l with
    | none =>
      rw [hc] at hr
      have HX := Lib.hid (Pl.dropR_none hc)
      obtain ⟨gF, cF, rfl⟩ : ∃ g c, e = .returned (.tuple #[.slice (some ⟨g, 0, none⟩) 9 c, .bool false]) := hr
      clear hc
      go_wp2_with fail
      refine bodyPost_ret (v := .tuple #[.agg #[.slice none 0 0, .slice none 0 0], .bool false]) (by simp [results, Try.results26, go_sem, j0, j1]) rfl (RSt.no HX.out rfl ?_)
      exact (G.setCell (by show w.heap.size ≤ w.heap.size + 1; omega) _).setCell (by show w.heap.size ≤ w.heap.size + 1; omega) _
    | some p =>
      rw [hc] at hr
      have HX := Lib.hid (Pl.dropR_some hc)
      obtain ⟨gF, cF, rfl, hF⟩ : ∃ g c, e = .returned (.tuple #[.slice (some ⟨g, 0, none⟩) 9 c, .bool true]) ∧ OFlg w2 w1.heap.size (some ⟨g, 0, none⟩) c 9 p := hr
      obtain ⟨k0, k1, _, _⟩ := y0.facts
      have hlw := y1.lt
      have hz1 := G.le
      clear hc j0 j1 f0 f1
      go_wp2_with fail
      refine (l4Only_c A B c d gF cF _ ⟨v, h⟩ p false _ (hS.grow G) HS.out hF).mono ?_
      rintro e w3 ⟨A2, B2, c2, d2, rfl, o2, g3⟩
      rw [drop_eq] at o2
      replace y1 := y1.grow g3
      obtain ⟨j0, j1, f0, f1⟩ := y1.facts
      clear k0 k1
      go_wp2_with fail
      refine bodyPost_ret (v := .tuple #[.agg #[.slice A2 v.length c2, .slice B2 (Pl.onlyTo (fun t => p t == false) 8 h).length d2], .bool true]) (by simp [results, Try.results26, go_sem, j0, j1]) rfl ?_
      rw [HX.out]
      exact ⟨A2, B2, c2, d2, by rw [drop_eq], ((o2.far (by show w.heap.size + 1 < _; omega) _).far (by show w.heap.size + 1 < _; omega) _).lo (by omega), ((G.trans g3).setCell (by show w.heap.size ≤ w.heap.size + 1; omega) _).setCell (by show w.heap.size ≤ w.heap.size + 1; omega) _⟩

end Go.Proofs.Ytcipmmieiafpbaa
