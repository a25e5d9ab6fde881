/- Contracts of the cells of an atom, in the program and in the reference. Conditions: the lengths are far from Go's bounds. -/
import Derived.Test.YtlcijjbeikoppaaCSet
import Derived.Test.YtlcijjbeikoppaaDrawF
import Derived.Test.YtlcijjbeikoppaaBox3
namespace Go.Proofs.Ytlcijjbeikoppaa
open Go.RowKit
set_option linter.unusedVariables false

theorem l4R_list {s : Pl.St} {k a b : Int} (h : k = 2) : Pl.l4R s ⟨k, a, b⟩ = wayR s.h (Pl.tval s.v a) (Pl.tval s.v b) := by
  unfold Pl.l4R wayR; rw [if_pos h]; rfl
theorem l4R_cell {s : Pl.St} {k a b x y : Int} (h : ¬ k = 2) (hx : Pl.tval s.v a = x) (hy : Pl.tval s.v b = y) (hh : Pl.hasB s.h x = true) (hc : Pl.cont s.h x = y) : Pl.l4R s ⟨k, a, b⟩ = ([x], true) := by
  unfold Pl.l4R; rw [if_neg h]; simp only [hx, hy]; rw [hh, decide_eq_true hc]; rfl
theorem l4R_no {s : Pl.St} {k a b x y : Int} (h : ¬ k = 2) (hx : Pl.tval s.v a = x) (hy : Pl.tval s.v b = y) (hc : Pl.hasB s.h x = false ∨ Pl.cont s.h x ≠ y) : Pl.l4R s ⟨k, a, b⟩ = ([], false) := by
  unfold Pl.l4R; rw [if_neg h]; simp only [hx, hy]
  rcases hc with hc | hc
  · rw [hc]; rfl
  · rw [decide_eq_false hc, Bool.and_false]; rfl

set_option maxRecDepth 100000 in
set_option maxHeartbeats 1600000 in
theorem AtomCells_c (A B : Option Addr) (c d : Nat) (s : Pl.St) (x : Pl.Atm) (w : World) (hS : Sts w A B s) (h1 : s.v.length ≤ 4194304) (h2 : s.h.length ≤ 4194304) :
    Calls Try.prog 17 #[sval A B c d s, xval x] w (RWay w (Pl.atomR s x)) := by
  obtain ⟨v, h⟩ := s
  obtain ⟨kk, a, b⟩ := x
  have y1 := (Box2.new w 43 (.slice A v.length c) (.slice B h.length d)).grow (show Grow _ ((w.alloc (.cells #[.slice A v.length c, .slice B h.length d] 43)).alloc (.cells #[.int .i64 kk, .int .i64 a, .int .i64 b] 45)) from Grow.alloc (Grow.refl _) _)
  have y2 := Box3.new (w.alloc (.cells #[.slice A v.length c, .slice B h.length d] 43)) 45 (.int .i64 kk) (.int .i64 a) (.int .i64 b)
  have G : Grow w ((w.alloc (.cells #[.slice A v.length c, .slice B h.length d] 43)).alloc (.cells #[.int .i64 kk, .int .i64 a, .int .i64 b] 45)) := (by repeat (first | exact Grow.refl _ | assumption | refine Grow.alloc ?_ _ | refine Grow.drew ?_ | refine Grow.drewN ?_ _ | refine Grow.trans ?_ (by assumption) | refine Grow.below ?_ (by assumption) (by first | exact Nat.le_refl _ | omega)))
  simp only [World.size_alloc] at y2
  show Calls Try.prog 17 #[.agg #[.slice A v.length c, .slice B h.length d], .agg #[.int .i64 kk, .int .i64 a, .int .i64 b]] w _
  obtain ⟨r, hr⟩ : ∃ r, r = Pl.atomR ⟨v, h⟩ ⟨kk, a, b⟩ := ⟨_, rfl⟩
  rw [← hr]
  have HR := Lib.hid hr
  clear hr
  go_enter Try.func17, Try.ntmps17
  obtain ⟨k0, k1, _, _⟩ := y1.facts
  go_wp2_with fail
  generalize (w.alloc (.cells #[.slice A v.length c, .slice B h.length d] 43)).alloc (.cells #[.int .i64 kk, .int .i64 a, .int .i64 b] 45) = w0 at *
  refine (StateValid_c A B c d ⟨v, h⟩ _ (hS.grow G) h1 h2).mono ?_
  rintro e w1 ⟨rfl, g1⟩
  clear k0 k1
  replace y1 := y1.grow g1
  replace y2 := y2.grow g1
  replace G := G.trans g1
  clear g1
  obtain ⟨k0, k1, _, _⟩ := y1.facts
  obtain ⟨q0, q1, q2⟩ := y2.facts
  cases hs : Pl.stv ⟨v, h⟩ with
  | false =>
    have HX := Lib.hid (show r = ([], false) by rw [HR.out]; unfold Pl.atomR; rw [hs]; rfl)
    clear hs
    go_wp2_with fail
    go_ret2
    rw [HX.out]
    exact ⟨none, 0, rfl, oints_nil _ _, G⟩
  | true =>
    have HS := Lib.hid hs
    clear hs
    go_wp2_with fail
    refine (atomValid_c ⟨kk, a, b⟩ _).mono ?_
    rintro e w2 ⟨rfl, g2⟩
    clear k0 k1 q0 q1 q2
    replace y1 := y1.grow g2
    replace y2 := y2.grow g2
    replace G := G.trans g2
    clear g2
    obtain ⟨k0, k1, _, _⟩ := y1.facts
    obtain ⟨q0, q1, q2⟩ := y2.facts
    cases hx : Pl.av ⟨kk, a, b⟩ with
    | false =>
      have HX := Lib.hid (show r = ([], false) by rw [HR.out]; unfold Pl.atomR; rw [hx, Bool.and_false]; rfl)
      clear hx
      go_wp2_with fail
      go_ret2
      rw [HX.out]
      exact ⟨none, 0, rfl, oints_nil _ _, G⟩
    | true =>
      obtain ⟨hk, ha, hb⟩ := (Pl.av_iff _).1 hx
      have va := Pl.stv_val HS.out ha
      have vb := Pl.stv_val HS.out hb
      have ra := (Pl.tmB_iff a).1 ha
      have rb := (Pl.tmB_iff b).1 hb
      have hv8 := Lib.hid (show v.length = 8 from Pl.stv_v HS.out)
      have hh8 := Lib.hid (show h.length = 8 from Pl.stv_h HS.out)
      have HX := Lib.hid (HR.out.trans (Pl.atomR_ok HS.out hx))
      have IA : Ints w A v := hS.v
      have IB : Ints w B h := hS.h
      have CA := fun W (hg : Grow w W) => termValue_n A c v a W (IA.grow hg) hv8.out ra.1 ra.2
      have CB := fun W (hg : Grow w W) => termValue_n A c v b W (IA.grow hg) hv8.out rb.1 rb.2
      obtain ⟨ta, hta⟩ : ∃ t, Pl.tval v a = t := ⟨_, rfl⟩
      obtain ⟨tb, htb⟩ : ∃ t, Pl.tval v b = t := ⟨_, rfl⟩
      replace va : 0 ≤ ta ∧ ta ≤ 8 := by rw [← hta]; exact va
      replace vb : 0 ≤ tb ∧ tb ≤ 8 := by rw [← htb]; exact vb
      rw [hta] at CA
      rw [htb] at CB
      have HTA := Lib.hid hta
      have HTB := Lib.hid htb
      clear hx ha hb hta htb hk
      go_wp2_with fail
      go_quiet (first | (go_at_call 54; with_reducible exact qcall (CA _ (by repeat (first | exact Grow.refl _ | assumption | refine Grow.alloc ?_ _ | refine Grow.drew ?_ | refine Grow.drewN ?_ _ | refine Grow.trans ?_ (by assumption) | refine Grow.below ?_ (by assumption) (by first | exact Nat.le_refl _ | omega))))) | (go_at_call 54; with_reducible exact qcall (CB _ (by repeat (first | exact Grow.refl _ | assumption | refine Grow.alloc ?_ _ | refine Grow.drew ?_ | refine Grow.drewN ?_ _ | refine Grow.trans ?_ (by assumption) | refine Grow.below ?_ (by assumption) (by first | exact Nat.le_refl _ | omega))))) | fail)
      replace y1 := y1.grow (show Grow w2 (w2.drewN nq) from Grow.drewN (Grow.refl _) _)
      replace y2 := y2.grow (show Grow w2 (w2.drewN nq) from Grow.drewN (Grow.refl _) _)
      replace G := G.drewN nq
      clear k0 k1 q0 q1 q2
      generalize w2.drewN nq = w3 at *
      obtain ⟨k0, k1, _, _⟩ := y1.facts
      obtain ⟨q0, q1, q2⟩ := y2.facts
      by_cases hk2 : kk = 2
      · have b2 : (kk == 2) = true := by simp [hk2]
        have HY := Lib.hid (show r = Pl.walkC ⟨v, h⟩ ta tb by rw [HX.out, l4R_list hk2]; rw [show Pl.tval (Pl.St.v ⟨v, h⟩) a = ta from HTA.out, show Pl.tval (Pl.St.v ⟨v, h⟩) b = tb from HTB.out, walkC_wayR HS.out ((Pl.vlB_iff _).2 va) ((Pl.vlB_iff _).2 vb)])
        clear hk2
        go_wp2_with fail
        refine (WalkCells_c A B c d ⟨v, h⟩ ta tb _ (hS.grow G) h1 h2).mono ?_
        rintro e w4 ⟨A4, c4, rfl, o4, g4⟩
        go_wp2_with fail
        go_ret2
        rw [HY.out]
        exact ⟨A4, c4, rfl, own_lo o4 G.le, G.trans g4⟩
      · have b2 : (kk == 2) = false := by simp [hk2]
        go_wp2_with fail
        refine (content_c A B v.length c d h ta _ (IB.grow G) hh8.out).mono ?_
        rintro e w4 ⟨rfl, g4⟩
        replace G := G.trans g4
        by_cases hc : Pl.cont h ta = tb
        · have HY := Lib.hid (show r = ([ta], true) from HX.out.trans (l4R_cell hk2 HTA.out HTB.out ((Pl.hasB_iff _ _).2 (by show 0 ≤ Pl.cont h ta; omega)) hc))
          have b3 : (Pl.cont h ta != tb) = false := by simp [hc]
          clear hc
          go_wp2_with fail
          go_ret2
          rw [HY.out]
          exact ⟨_, _, rfl, own_lo (lit_own w4 [ta] _ rfl (by simp)) G.le, G.alloc _⟩
        · have HY := Lib.hid (show r = ([], false) from HX.out.trans (l4R_no hk2 HTA.out HTB.out (.inr hc)))
          have b3 : (Pl.cont h ta != tb) = true := by simp [hc]
          clear hc
          go_wp2_with fail
          go_ret2
          rw [HY.out]
          exact ⟨none, 0, rfl, oints_nil _ _, G⟩

set_option maxRecDepth 100000 in
set_option maxHeartbeats 1600000 in
theorem l4Cells_c (A B : Option Addr) (c d : Nat) (s : Pl.St) (x : Pl.Atm) (w : World) (hS : Sts w A B s) (hs : Pl.stv s = true) (hx : Pl.av x = true) :
    Calls Try.prog 59 #[sval A B c d s, xval x] w (RWay w (Pl.l4R s x)) := by
  obtain ⟨v, h⟩ := s
  obtain ⟨kk, a, b⟩ := x
  have y1 := (Box2.new w 43 (.slice A v.length c) (.slice B h.length d)).grow (show Grow _ ((w.alloc (.cells #[.slice A v.length c, .slice B h.length d] 43)).alloc (.cells #[.int .i64 kk, .int .i64 a, .int .i64 b] 45)) from Grow.alloc (Grow.refl _) _)
  have y2 := Box3.new (w.alloc (.cells #[.slice A v.length c, .slice B h.length d] 43)) 45 (.int .i64 kk) (.int .i64 a) (.int .i64 b)
  have G : Grow w ((w.alloc (.cells #[.slice A v.length c, .slice B h.length d] 43)).alloc (.cells #[.int .i64 kk, .int .i64 a, .int .i64 b] 45)) := (by repeat (first | exact Grow.refl _ | assumption | refine Grow.alloc ?_ _ | refine Grow.drew ?_ | refine Grow.drewN ?_ _ | refine Grow.trans ?_ (by assumption) | refine Grow.below ?_ (by assumption) (by first | exact Nat.le_refl _ | omega)))
  simp only [World.size_alloc] at y2
  show Calls Try.prog 59 #[.agg #[.slice A v.length c, .slice B h.length d], .agg #[.int .i64 kk, .int .i64 a, .int .i64 b]] w _
  obtain ⟨r, hr⟩ : ∃ r, r = Pl.l4R ⟨v, h⟩ ⟨kk, a, b⟩ := ⟨_, rfl⟩
  rw [← hr]
  have HX := Lib.hid hr
  clear hr
  obtain ⟨hk, ha, hb⟩ := (Pl.av_iff _).1 hx
  have va := Pl.stv_val hs ha
  have vb := Pl.stv_val hs hb
  have ra := (Pl.tmB_iff a).1 ha
  have rb := (Pl.tmB_iff b).1 hb
  have hv8 := Lib.hid (show v.length = 8 from Pl.stv_v hs)
  have hh8 := Lib.hid (show h.length = 8 from Pl.stv_h hs)
  have IA : Ints w A v := hS.v
  have IB : Ints w B h := hS.h
  have CA := fun W (hg : Grow w W) => l1Value_n A c v a W (IA.grow hg) hv8.out ra.1 ra.2
  have CB := fun W (hg : Grow w W) => l1Value_n A c v b W (IA.grow hg) hv8.out rb.1 rb.2
  obtain ⟨ta, hta⟩ : ∃ t, Pl.tval v a = t := ⟨_, rfl⟩
  obtain ⟨tb, htb⟩ : ∃ t, Pl.tval v b = t := ⟨_, rfl⟩
  replace va : 0 ≤ ta ∧ ta ≤ 8 := by rw [← hta]; exact va
  replace vb : 0 ≤ tb ∧ tb ≤ 8 := by rw [← htb]; exact vb
  rw [hta] at CA
  rw [htb] at CB
  have HTA := Lib.hid hta
  have HTB := Lib.hid htb
  clear hx ha hb hta htb hk hs
  go_enter Try.func59, Try.ntmps59
  obtain ⟨k0, k1, _, _⟩ := y1.facts
  obtain ⟨q0, q1, q2⟩ := y2.facts
  go_wp2_with fail
  generalize (w.alloc (.cells #[.slice A v.length c, .slice B h.length d] 43)).alloc (.cells #[.int .i64 kk, .int .i64 a, .int .i64 b] 45) = w0 at *
  refine (CA _ G).mono ?_
  rintro e w1 ⟨rfl, rfl⟩
  go_wp2_with fail
  refine (CB _ G).mono ?_
  rintro e w1 ⟨rfl, rfl⟩
  clear CA CB
  by_cases hk2 : kk = 2
  · have b2 : (kk == 2) = true := by simp [hk2]
    have HY := Lib.hid (show r = wayR h ta tb by rw [HX.out, l4R_list hk2]; rw [show Pl.tval (Pl.St.v ⟨v, h⟩) a = ta from HTA.out, show Pl.tval (Pl.St.v ⟨v, h⟩) b = tb from HTB.out])
    clear hk2
    go_wp2_with fail
    refine (l2Walk_c A B c d v h ta tb _ (hS.grow G) hh8.out).mono ?_
    rintro e w4 ⟨A4, c4, rfl, o4, g4⟩
    go_wp2_with fail
    go_ret2
    rw [HY.out]
    exact ⟨A4, c4, rfl, own_lo o4 G.le, G.trans g4⟩
  · have b2 : (kk == 2) = false := by simp [hk2]
    go_wp2_with fail
    refine (l2Has_c A B v.length c d h ta _ (IB.grow G) hh8.out).mono ?_
    rintro e w4 ⟨rfl, g4⟩
    replace y1 := y1.grow g4
    replace G := G.trans g4
    clear k0 k1 q0 q1 q2
    cases hh : Pl.hasB h ta with
    | false =>
      have HY := Lib.hid (show r = ([], false) from HX.out.trans (l4R_no hk2 HTA.out HTB.out (.inl hh)))
      clear hh
      go_wp2_with fail
      go_ret2
      rw [HY.out]
      exact ⟨some ⟨w4.heap.size, 0, none⟩, 0, rfl, own_lo (own_empty (heap_alloc_new w4 _) (Nat.le_refl _)) G.le, G.alloc _⟩
    | true =>
      obtain ⟨k0, k1, _, _⟩ := y1.facts
      have har := Pl.has_ad hh
      obtain ⟨j, rfl⟩ : ∃ k : Nat, ta = (k : Int) + 1 := ⟨(ta - 1).toNat, by omega⟩
      have hj : j < h.length := by have := hh8.out; omega
      have hc0 := Pl.cont_in hj hh8.out
      obtain ⟨bb, off, rfl, c0⟩ := (IB.grow G).at_ hj
      have hj2 : (j : Int) < (h.length : Int) := by omega
      by_cases hc : h[j] = tb
      · have HY := Lib.hid (show r = ([(j : Int) + 1], true) from HX.out.trans (l4R_cell hk2 HTA.out HTB.out hh (by show Pl.cont h _ = _; rw [hc0, hc])))
        have b3 : (h[j] != tb) = false := by simp [hc]
        clear hc hh hc0
        go_wp2_with fail
        go_ret2
        rw [HY.out]
        exact ⟨_, _, rfl, own_lo (lit_own w4 [(j : Int) + 1] _ rfl (by simp)) G.le, G.alloc _⟩
      · have HY := Lib.hid (show r = ([], false) from HX.out.trans (l4R_no hk2 HTA.out HTB.out (.inr (by show Pl.cont h _ ≠ _; rw [hc0]; exact hc))))
        have b3 : (h[j] != tb) = true := by simp [hc]
        clear hc hh hc0
        go_wp2_with fail
        go_ret2
        rw [HY.out]
        exact ⟨some ⟨w4.heap.size, 0, none⟩, 0, rfl, own_lo (own_empty (heap_alloc_new w4 _) (Nat.le_refl _)) G.le, G.alloc _⟩

set_option maxRecDepth 100000 in
set_option maxHeartbeats 800000 in
theorem sAtomCells_c (A B : Option Addr) (c d : Nat) (s : Pl.St) (x : Pl.Atm) (w : World) (hS : Sts w A B s) (h1 : s.v.length ≤ 4194304) (h2 : s.h.length ≤ 4194304) :
    Calls Try.prog 18 #[sval A B c d s, xval x] w (RWay w (Pl.atomR s x)) := by
  obtain ⟨v, h⟩ := s
  obtain ⟨kk, a, b⟩ := x
  have y1 := (Box2.new w 43 (.slice A v.length c) (.slice B h.length d)).grow (show Grow _ ((w.alloc (.cells #[.slice A v.length c, .slice B h.length d] 43)).alloc (.cells #[.int .i64 kk, .int .i64 a, .int .i64 b] 45)) from Grow.alloc (Grow.refl _) _)
  have y2 := Box3.new (w.alloc (.cells #[.slice A v.length c, .slice B h.length d] 43)) 45 (.int .i64 kk) (.int .i64 a) (.int .i64 b)
  have G : Grow w ((w.alloc (.cells #[.slice A v.length c, .slice B h.length d] 43)).alloc (.cells #[.int .i64 kk, .int .i64 a, .int .i64 b] 45)) := (by repeat (first | exact Grow.refl _ | assumption | refine Grow.alloc ?_ _ | refine Grow.drew ?_ | refine Grow.drewN ?_ _ | refine Grow.trans ?_ (by assumption) | refine Grow.below ?_ (by assumption) (by first | exact Nat.le_refl _ | omega)))
  simp only [World.size_alloc] at y2
  show Calls Try.prog 18 #[.agg #[.slice A v.length c, .slice B h.length d], .agg #[.int .i64 kk, .int .i64 a, .int .i64 b]] w _
  obtain ⟨r, hr⟩ : ∃ r, r = Pl.atomR ⟨v, h⟩ ⟨kk, a, b⟩ := ⟨_, rfl⟩
  rw [← hr]
  have HR := Lib.hid hr
  clear hr
  go_enter Try.func18, Try.ntmps18
  obtain ⟨k0, k1, _, _⟩ := y1.facts
  go_wp2_with fail
  generalize (w.alloc (.cells #[.slice A v.length c, .slice B h.length d] 43)).alloc (.cells #[.int .i64 kk, .int .i64 a, .int .i64 b] 45) = w0 at *
  refine (sStateValid_c A B c d ⟨v, h⟩ _ (hS.grow G) h1 h2).mono ?_
  rintro e w1 ⟨rfl, g1⟩
  clear k0 k1
  replace y1 := y1.grow g1
  replace y2 := y2.grow g1
  replace G := G.trans g1
  clear g1
  obtain ⟨q0, q1, q2⟩ := y2.facts
  cases hs : Pl.stv ⟨v, h⟩ with
  | false =>
    have HX := Lib.hid (show r = ([], false) by rw [HR.out]; unfold Pl.atomR; rw [hs]; rfl)
    clear hs
    go_wp2_with fail
    go_ret2
    rw [HX.out]
    exact ⟨some ⟨w1.heap.size, 0, none⟩, 0, rfl, own_lo (own_empty (heap_alloc_new w1 _) (Nat.le_refl _)) G.le, G.alloc _⟩
  | true =>
    have HS := Lib.hid hs
    clear hs
    go_wp2_with fail
    refine (l3Atom_c ⟨kk, a, b⟩ _).mono ?_
    rintro e w2 ⟨rfl, g2⟩
    clear q0 q1 q2
    replace y1 := y1.grow g2
    replace y2 := y2.grow g2
    replace G := G.trans g2
    clear g2
    obtain ⟨k0, k1, _, _⟩ := y1.facts
    obtain ⟨q0, q1, q2⟩ := y2.facts
    cases hx : Pl.av ⟨kk, a, b⟩ with
    | false =>
      have HX := Lib.hid (show r = ([], false) by rw [HR.out]; unfold Pl.atomR; rw [hx, Bool.and_false]; rfl)
      clear hx
      go_wp2_with fail
      go_ret2
      rw [HX.out]
      exact ⟨some ⟨w2.heap.size, 0, none⟩, 0, rfl, own_lo (own_empty (heap_alloc_new w2 _) (Nat.le_refl _)) G.le, G.alloc _⟩
    | true =>
      have HX := Lib.hid (HR.out.trans (Pl.atomR_ok HS.out hx))
      have HV := Lib.hid hx
      clear hx
      go_wp2_with fail
      refine (l4Cells_c A B c d ⟨v, h⟩ ⟨kk, a, b⟩ _ (hS.grow G) HS.out HV.out).mono ?_
      rintro e w4 ⟨A4, c4, rfl, o4, g4⟩
      go_wp2_with fail
      go_ret2
      rw [HX.out]
      exact ⟨A4, c4, rfl, own_lo o4 G.le, G.trans g4⟩

end Go.Proofs.Ytlcijjbeikoppaa
