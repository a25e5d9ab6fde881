/- Contracts of the terms of an assertion: as bits in the program, as flags in the reference; fresh variables. Conditions: the assertion is valid. -/
import Derived.Test.YtljamkcapfdgcaaAs3
import Derived.Test.YtljamkcapfdgcaaTSet
import Derived.Test.YtljamkcapfdgcaaFlg
import Derived.Deep.DeepCutAuto
namespace Go.Proofs.Ytljamkcapfdgcaa
open Go.RowKit
set_option linter.unusedVariables false

theorem tm_nat {x : Int} (h : Pl.tmB x = true) : ∃ n : Nat, x = (n : Int) ∧ n ≤ 8 := by
  have := (Pl.tmB_iff x).1 h
  exact ⟨x.toNat, by omega, by omega⟩
theorem TS.congr {n : Nat} {p q : Nat → Bool} (h : TS n p) (e : ∀ t, t ≤ 8 → p t = q t) : TS n q := ⟨h.1, fun t ht => (h.2 t ht).trans (e t ht)⟩

set_option maxHeartbeats 1000000 in
theorem termsIn_c (A B : Option Addr) (c d : Nat) (s : Pl.Asr) (w : World) (hS : Asrs w A B s) (hv : Pl.asv s = true) :
    Calls Try.prog 38 #[asval A B c d s] w fun e w' => ∃ n : Nat, e = .returned (.int .u16 (n : Int)) ∧ TS n (fun t => Pl.occ s (t : Int)) ∧ Grow w w' := by
  obtain ⟨f, a⟩ := s
  have IA : Facts w A f := hS.v
  have IB : Atoms w B a := hS.h
  obtain ⟨h1, h2, h3⟩ := (Pl.asv_iff _).1 hv
  obtain ⟨h4, h5⟩ := (Pl.fsv_iff _).1 h1
  replace h2 : a.length ≤ 6 := h2
  replace h4 : f.length ≤ 12 := h4
  have HF := Lib.hid (show ∀ x ∈ f, Pl.fv x = true from h5)
  have HA := Lib.hid (show ∀ x ∈ a, Pl.av x = true from h3)
  clear h1 h3 h5 hv hS
  show Calls Try.prog 38 #[.agg #[.slice A f.length c, .slice B a.length d]] w _
  go_enter Try.func38, Try.ntmps38
  go_wp2
  go_loopw [3, 11] (fun q i wr => ∃ k n : Nat, k ≤ f.length ∧ i = .int .i64 k ∧ q = .int .u16 (n : Int) ∧ TS n (fun t => (f.take k).any (Pl.occF · (t : Int))) ∧ Grow (w.alloc (.cells #[.slice A f.length c, .slice B a.length d] 31)) wr) (fun _ i _ => f.length - (intOf i).toNat)
  case atStart => exact ⟨0, 0, Nat.zero_le _, rfl, rfl, TS.zero.congr (fun t _ => by simp), Grow.refl _⟩
  case round =>
    obtain ⟨k, n, hk, rfl, rfl, ht, hg⟩ := hrel
    have hg0 : Grow w wr := (Grow.alloc (Grow.refl w) _).trans hg
    by_cases hlt : k < f.length
    · obtain ⟨b, off, rfl, c0, c1, c2⟩ := (IA.grow hg0).at_ hlt
      obtain ⟨ha, hb⟩ : Pl.tmB f[k].a = true ∧ Pl.tmB f[k].b = true := by
        have := HF.out _ (List.getElem_mem hlt); unfold Pl.fv at this; rwa [Bool.and_eq_true] at this
      obtain ⟨x, hx, hx8⟩ := tm_nat ha
      obtain ⟨y, hy, hy8⟩ := tm_nat hb
      have t1 := ht.add hx8
      have t2 := t1.add hy8
      have HT := Lib.hid (t2.congr (q := fun t => (f.take (k + 1)).any (Pl.occF · (t : Int))) (fun t _ => by
        rw [take_snoc f k hlt, List.any_append]
        simp only [List.any_cons, List.any_nil, Bool.or_false, Pl.occF, hx, hy, Bool.or_assoc]
        congr 1
        have e1 : decide (t = x) = decide ((x : Int) = (t : Int)) := by rw [Bool.eq_iff_iff]; simp; omega
        have e2 : decide (t = y) = decide ((y : Int) = (t : Int)) := by rw [Bool.eq_iff_iff]; simp; omega
        rw [e1, e2]))
      rw [hx] at c1
      rw [hy] at c2
      clear ha hb hx hy
      have C1 := fun w => with_c n _ x w ht hx8
      have C2 := fun w => with_c (n ||| 2 ^ x) _ y w t1 hy8
      generalize n ||| 2 ^ x ||| 2 ^ y = n2 at HT C2
      generalize n ||| 2 ^ x = n1 at C1 C2
      clear t1 t2 ht
      go_wp2_with fail
      go_quiet (first | (go_at_call 61; with_reducible exact qcall (C1 _)) | (go_at_call 61; with_reducible exact qcall (C2 _)) | fail)
      go_wp2_with fail
      go_roundw
      case rel => exact ⟨k + 1, n2, by omega, by go_num, rfl, HT.out, (by repeat (first | exact Grow.refl _ | assumption | refine Grow.alloc ?_ _ | refine Grow.drew ?_ | refine Grow.drewN ?_ _ | refine Grow.trans ?_ (by assumption) | refine Grow.below ?_ (by assumption) (by first | exact Nat.le_refl _ | omega)))⟩
      case measure => simp [intOf]; omega
    · have HT := Lib.hid (show TS n (fun t => f.any (Pl.occF · (t : Int))) by rw [take_eq_all hlt] at ht; exact ht)
      obtain ⟨k0, k1, _, _⟩ := ((Box2.new w 31 (.slice A f.length c) (.slice B a.length d)).grow hg).facts
      go_wp2_with fail
      obtain ⟨wo, rfl⟩ : ∃ wo : World, wo = wr := ⟨_, rfl⟩
      clear k0 k1 hg ht
      go_loopw [3, 26] (fun q i wr => ∃ k n : Nat, k ≤ a.length ∧ i = .int .i64 k ∧ q = .int .u16 (n : Int) ∧ TS n (fun t => f.any (Pl.occF · (t : Int)) || (a.take k).any (Pl.occA · (t : Int))) ∧ Grow wo wr) (fun _ i _ => a.length - (intOf i).toNat)
      case atStart => exact ⟨0, n, Nat.zero_le _, rfl, rfl, HT.out.congr (fun t _ => by simp), Grow.refl _⟩
      case round =>
        obtain ⟨j, m, hj, rfl, rfl, ht, hg⟩ := hrel
        by_cases hlj : j < a.length
        · obtain ⟨b, off, rfl, c0, c1, c2⟩ := (IB.grow (hg0.trans hg)).at_ hlj
          obtain ⟨_, ha, hb⟩ := (Pl.av_iff _).1 (HA.out _ (List.getElem_mem hlj))
          obtain ⟨x, hx, hx8⟩ := tm_nat ha
          obtain ⟨y, hy, hy8⟩ := tm_nat hb
          have t1 := ht.add hx8
          have t2 := t1.add hy8
          have HT := Lib.hid (t2.congr (q := fun t => f.any (Pl.occF · (t : Int)) || (a.take (j + 1)).any (Pl.occA · (t : Int))) (fun t _ => by
            rw [take_snoc a j hlj, List.any_append]
            simp only [List.any_cons, List.any_nil, Bool.or_false, Pl.occA, hx, hy, Bool.or_assoc]
            congr 1
            congr 1
            have e1 : decide (t = x) = decide ((x : Int) = (t : Int)) := by rw [Bool.eq_iff_iff]; simp; omega
            have e2 : decide (t = y) = decide ((y : Int) = (t : Int)) := by rw [Bool.eq_iff_iff]; simp; omega
            rw [e1, e2]))
          rw [hx] at c1
          rw [hy] at c2
          clear ha hb hx hy
          have C1 := fun w => with_c m _ x w ht hx8
          have C2 := fun w => with_c (m ||| 2 ^ x) _ y w t1 hy8
          generalize m ||| 2 ^ x ||| 2 ^ y = n2 at HT C2
          generalize m ||| 2 ^ x = n1 at C1 C2
          clear t1 t2 ht
          go_wp2_with fail
          go_quiet (first | (go_at_call 61; with_reducible exact qcall (C1 _)) | (go_at_call 61; with_reducible exact qcall (C2 _)) | fail)
          go_wp2_with fail
          go_roundw
          case rel => exact ⟨j + 1, n2, by omega, by go_num, rfl, HT.out, (by repeat (first | exact Grow.refl _ | assumption | refine Grow.alloc ?_ _ | refine Grow.drew ?_ | refine Grow.drewN ?_ _ | refine Grow.trans ?_ (by assumption) | refine Grow.below ?_ (by assumption) (by first | exact Nat.le_refl _ | omega)))⟩
          case measure => simp [intOf]; omega
        · have HT2 := Lib.hid (show TS m (fun t => Pl.occ ⟨f, a⟩ (t : Int)) by rw [take_eq_all hlj] at ht; exact ht)
          go_wp2_with fail
          go_ret
          exact ⟨m, rfl, HT2.out, hg0.trans hg⟩

set_option maxHeartbeats 1000000 in
theorem unused_c (n : Nat) (q : Int → Bool) (w : World) (h : TS n fun t => q (t : Int)) :
    Calls Try.prog 39 #[.int .u16 (n : Int)] w fun e w' => e = .returned (.tuple #[.int .i64 (Pl.freshFrom q 4 5).1, .bool (Pl.freshFrom q 4 5).2]) ∧ Grow w w' := by
  obtain ⟨r, hr⟩ : ∃ r, r = Pl.freshFrom q 4 5 := ⟨_, rfl⟩
  rw [← hr]
  go_enter Try.func39, Try.ntmps39
  go_wp2
  go_loopw [4] (fun i wr => ∃ k : Nat, k ≤ 4 ∧ i = .int .i64 ((5 + k : Nat) : Int) ∧ Pl.freshFrom q (4 - k) ((5 + k : Nat) : Int) = r ∧ w = wr) (fun i _ => 9 - (intOf i).toNat)
  case atStart => exact ⟨0, by omega, rfl, hr.symm, rfl⟩
  case round =>
    obtain ⟨k, hk, rfl, hf, rfl⟩ := hrel
    have HF := Lib.hid hf
    clear hf hr
    by_cases hlt : k < 4
    · cases hq : q ((5 + k : Nat) : Int) with
      | true =>
        have HQ := Lib.hid hq
        clear hq
        have HN := Lib.hid (show Pl.freshFrom q (4 - (k + 1)) ((5 + (k + 1) : Nat) : Int) = r by
          have h1 := HF.out
          rw [show 4 - k = (4 - (k + 1)) + 1 from by omega] at h1
          unfold Pl.freshFrom at h1
          rw [HQ.out] at h1
          rw [show ((5 + (k + 1) : Nat) : Int) = ((5 + k : Nat) : Int) + 1 from by omega]
          exact h1)
        go_wp2_with (go_at_call 62; refine (has_c n _ (5 + k) _ h (by omega)).mono ?_; rintro e w' ⟨rfl, rfl⟩; rw [HQ.out])
        go_roundw
        case rel => exact ⟨k + 1, by omega, by go_num, HN.out, trivial⟩
        case measure => simp [intOf]; omega
      | false =>
        have HQ := Lib.hid hq
        clear hq
        have HN := Lib.hid (show r = (((5 + k : Nat) : Int), true) by
          have h1 := HF.out
          rw [show 4 - k = (4 - (k + 1)) + 1 from by omega] at h1
          unfold Pl.freshFrom at h1
          rw [HQ.out] at h1
          exact h1.symm)
        go_wp2_with (go_at_call 62; refine (has_c n _ (5 + k) _ h (by omega)).mono ?_; rintro e w' ⟨rfl, rfl⟩; rw [HQ.out])
        refine bodyPost_ret (v := .tuple #[.int .i64 ((5 + k : Nat) : Int), .bool true]) (by simp [results, Try.results39, go_sem]) rfl ⟨by rw [HN.out], Grow.refl _⟩
    · have hk4 : k = 4 := by omega
      subst hk4
      have HN := Lib.hid (show r = (0, false) from HF.out.symm)
      clear hlt hk
      go_wp2_with fail
      refine bodyPost_ret (v := .tuple #[.int .i64 0, .bool false]) (by simp [results, Try.results39, go_sem]) rfl ⟨by rw [HN.out], Grow.refl _⟩

theorem FreshTerm_c (A B : Option Addr) (c d : Nat) (s : Pl.Asr) (w : World) (hS : Asrs w A B s) (h1 : s.f.length ≤ 4194304) (h2 : s.a.length ≤ 4194304) :
    Calls Try.prog 17 #[asval A B c d s] w fun e w' => e = .returned (.tuple #[.int .i64 (Pl.freshR s).1, .bool (Pl.freshR s).2]) ∧ Grow w w' := by
  have y := Box2.new w 31 (.slice A s.f.length c) (.slice B s.a.length d)
  cases ha : Pl.asv s with
  | false =>
    have HA := Lib.hid ha
    have HX := Lib.hid (show Pl.freshR s = (0, false) by unfold Pl.freshR; rw [ha]; rfl)
    clear ha
    go_enter Try.func17, Try.ntmps17
    go_wp2_with fail
    refine (AssertionValid_c A B c d s _ (hS.grow (by repeat (first | exact Grow.refl _ | assumption | refine Grow.alloc ?_ _ | refine Grow.drew ?_ | refine Grow.drewN ?_ _ | refine Grow.trans ?_ (by assumption) | refine Grow.below ?_ (by assumption) (by first | exact Nat.le_refl _ | omega)))) h1 h2).mono ?_
    rintro e w1 ⟨rfl, g1⟩
    rw [HA.out]
    go_wp2_with fail
    refine bodyPost_ret (v := .tuple #[.int .i64 0, .bool false]) (by simp [results, Try.results17, go_sem]) rfl ⟨by rw [HX.out], (by repeat (first | exact Grow.refl _ | assumption | refine Grow.alloc ?_ _ | refine Grow.drew ?_ | refine Grow.drewN ?_ _ | refine Grow.trans ?_ (by assumption) | refine Grow.below ?_ (by assumption) (by first | exact Nat.le_refl _ | omega)))⟩
  | true =>
    have HA := Lib.hid ha
    have HX := Lib.hid (show Pl.freshR s = Pl.freshFrom (Pl.occ s) 4 5 by unfold Pl.freshR; rw [ha]; rfl)
    clear ha
    go_enter Try.func17, Try.ntmps17
    go_wp2_with fail
    refine (AssertionValid_c A B c d s _ (hS.grow (by repeat (first | exact Grow.refl _ | assumption | refine Grow.alloc ?_ _ | refine Grow.drew ?_ | refine Grow.drewN ?_ _ | refine Grow.trans ?_ (by assumption) | refine Grow.below ?_ (by assumption) (by first | exact Nat.le_refl _ | omega)))) h1 h2).mono ?_
    rintro e w1 ⟨rfl, g1⟩
    rw [HA.out]
    replace y := y.grow g1
    have hS1 := hS.grow (show Grow w w1 from (by repeat (first | exact Grow.refl _ | assumption | refine Grow.alloc ?_ _ | refine Grow.drew ?_ | refine Grow.drewN ?_ _ | refine Grow.trans ?_ (by assumption) | refine Grow.below ?_ (by assumption) (by first | exact Nat.le_refl _ | omega))))
    have G := (show Grow w w1 from (by repeat (first | exact Grow.refl _ | assumption | refine Grow.alloc ?_ _ | refine Grow.drew ?_ | refine Grow.drewN ?_ _ | refine Grow.trans ?_ (by assumption) | refine Grow.below ?_ (by assumption) (by first | exact Nat.le_refl _ | omega))))
    clear g1
    obtain ⟨k0, k1, _, _⟩ := y.facts
    go_wp2_with fail
    refine (termsIn_c A B c d s _ hS1 HA.out).mono ?_
    rintro e w2 ⟨n, rfl, ht, g2⟩
    go_wp2_with fail
    refine (unused_c n (Pl.occ s) _ ht).mono ?_
    rintro e w3 ⟨rfl, g3⟩
    go_wp2_with fail
    refine bodyPost_ret (v := .tuple #[.int .i64 (Pl.freshFrom (Pl.occ s) 4 5).1, .bool (Pl.freshFrom (Pl.occ s) 4 5).2]) (by simp [results, Try.results17, go_sem]) rfl ⟨by rw [HX.out], G.trans (g2.trans g3)⟩

theorem flg_two {p q : Int → Bool} {x y : Nat} (h : ∀ t : Nat, q (t : Int) = (p (t : Int) || (decide ((x : Int) = (t : Int)) || decide ((y : Int) = (t : Int))))) :
    ∀ t : Nat, t < 9 → (if (t : Int) = (y : Int) then true else if (t : Int) = (x : Int) then true else p (t : Int)) = q (t : Int) := by
  intro t _
  rw [h t]
  by_cases e1 : (t : Int) = (y : Int)
  · rw [if_pos e1, e1]; simp
  · rw [if_neg e1]
    by_cases e2 : (t : Int) = (x : Int)
    · rw [if_pos e2, e2]; simp
    · rw [if_neg e2, decide_eq_false (fun e => e2 e.symm), decide_eq_false (fun e => e1 e.symm)]; simp


set_option maxHeartbeats 1000000 in
theorem l3Terms_c (A B : Option Addr) (c d : Nat) (s : Pl.Asr) (w : World) (hS : Asrs w A B s) (hv : Pl.asv s = true) :
    Calls Try.prog 37 #[asval A B c d s] w fun e w' => ∃ g c', e = .returned (.slice (some ⟨g, 0, none⟩) 9 c') ∧ OFlg w' w.heap.size (some ⟨g, 0, none⟩) c' 9 (Pl.occ s) ∧ Grow w w' := by
  obtain ⟨f, a⟩ := s
  have IA : Facts w A f := hS.v
  have IB : Atoms w B a := hS.h
  obtain ⟨h1, h2, h3⟩ := (Pl.asv_iff _).1 hv
  obtain ⟨h4, h5⟩ := (Pl.fsv_iff _).1 h1
  replace h2 : a.length ≤ 6 := h2
  replace h4 : f.length ≤ 12 := h4
  have HF := Lib.hid (show ∀ x ∈ f, Pl.fv x = true from h5)
  have HA := Lib.hid (show ∀ x ∈ a, Pl.av x = true from h3)
  clear h1 h3 h5 hv hS
  have hmk := madeB9
  have o0 := own_flg9 (w.alloc (.cells #[.slice A f.length c, .slice B a.length d] 31))
  simp only [World.size_alloc] at o0
  have y0 := (Box2.new w 31 (.slice A f.length c) (.slice B a.length d)).grow (show Grow _ ((w.alloc (.cells #[.slice A f.length c, .slice B a.length d] 31)).alloc (.cells (madeCells #[.bool false] 9) 4)) from Grow.alloc (Grow.refl _) _)
  have g0 : Grow w ((w.alloc (.cells #[.slice A f.length c, .slice B a.length d] 31)).alloc (.cells (madeCells #[.bool false] 9) 4)) := (by repeat (first | exact Grow.refl _ | assumption | refine Grow.alloc ?_ _ | refine Grow.drew ?_ | refine Grow.drewN ?_ _ | refine Grow.trans ?_ (by assumption) | refine Grow.below ?_ (by assumption) (by first | exact Nat.le_refl _ | omega)))
  show Calls Try.prog 37 #[.agg #[.slice A f.length c, .slice B a.length d]] w _
  go_enter Try.func37, Try.ntmps37
  go_wp2_with fail
  clear hmk
  generalize (w.alloc (.cells #[.slice A f.length c, .slice B a.length d] 31)).alloc (.cells (madeCells #[.bool false] 9) 4) = w0 at *
  go_loopw [4] (fun i wr => ∃ k : Nat, k ≤ f.length ∧ i = .int .i64 k ∧ Grow w wr ∧ Box2 wr w.heap.size 31 (.slice A f.length c) (.slice B a.length d) ∧ OFlg wr (w.heap.size + 1) (some ⟨w.heap.size + 1, 0, none⟩) 9 9 (fun t => (f.take k).any (Pl.occF · t))) (fun i _ => f.length - (intOf i).toNat)
  case atStart => exact ⟨0, Nat.zero_le _, rfl, g0, y0, o0.congr (fun t _ => by simp)⟩
  case round =>
    clear g0 y0 o0
    obtain ⟨k, hk, rfl, hg0, y0, o0⟩ := hrel
    by_cases hlt : k < f.length
    · obtain ⟨b, off, rfl, c0, c1, c2⟩ := IA.at_ hlt
      obtain ⟨ha, hb⟩ : Pl.tmB f[k].a = true ∧ Pl.tmB f[k].b = true := by
        have := HF.out _ (List.getElem_mem hlt); unfold Pl.fv at this; rwa [Bool.and_eq_true] at this
      obtain ⟨x, hx, hx8⟩ := tm_nat ha
      obtain ⟨y, hy, hy8⟩ := tm_nat hb
      have HT := Lib.hid (show ∀ t : Nat, (f.take (k + 1)).any (Pl.occF · (t : Int)) = ((f.take k).any (Pl.occF · (t : Int)) || (decide ((x : Int) = (t : Int)) || decide ((y : Int) = (t : Int)))) from fun t => by
        rw [take_snoc f k hlt, List.any_append]
        simp only [List.any_cons, List.any_nil, Bool.or_false, Pl.occF, hx, hy])
      have hb := World.block_lt_of_cell? w _ c1
      have hbg : ¬ b = w.heap.size + 1 := by have hb2 : b < w.heap.size := hb; omega
      have hgb : ¬ w.heap.size + 1 = b := by have hb2 : b < w.heap.size := hb; omega
      replace c1 := hg0.cell c1
      replace c2 := hg0.cell c2
      rw [hx] at c1
      rw [hy] at c2
      obtain ⟨k0, k1, _, _⟩ := y0.facts
      have q0 := o0.at_ (j := x) (by omega)
      have f0 := World.ownsRow.frozenAt o0 x
      have o1 := o0.set (j := x) (by omega) true
      have hx9 : (x : Int) < 9 := by omega
      have hy9 : (y : Int) < 9 := by omega
      clear ha hb hx hy c0
      go_upto_region 6 with (fail)
      have g1 : Grow w (wr.setCell ⟨w.heap.size + 1, x, none⟩ (.bool true)) := hg0.setCell (by show w.heap.size ≤ w.heap.size + 1; omega) _
      have y1 := y0.far (p := ⟨w.heap.size + 1, x, none⟩) (by show w.heap.size ≠ w.heap.size + 1; omega) (.bool true)
      have d2 : (wr.setCell ⟨w.heap.size + 1, x, none⟩ (.bool true)).cell? ⟨b, off + k * 3 + 2, none⟩ = some (.int .i64 (y : Int)) := (World.cell?_setCell_other _ _ _ _ (fun e => hgb (by injection e with e _ _))).trans c2
      clear c1 c2 q0 f0 k0 k1 y0 o0 hg0
      generalize wr.setCell ⟨w.heap.size + 1, x, none⟩ (.bool true) = w1 at *
      obtain ⟨k0, k1, _, _⟩ := y1.facts
      have q1 := o1.at_ (j := y) (by omega)
      have f1 := World.ownsRow.frozenAt o1 y
      have o2 := o1.set (j := y) (by omega) true
      have g2 : Grow w (w1.setCell ⟨w.heap.size + 1, y, none⟩ (.bool true)) := g1.setCell (by show w.heap.size ≤ w.heap.size + 1; omega) _
      have y2 := y1.far (p := ⟨w.heap.size + 1, y, none⟩) (by show w.heap.size ≠ w.heap.size + 1; omega) (.bool true)
      go_wp2_with fail
      go_roundw
      case rel => exact ⟨k + 1, by omega, by go_num, g2, y2, o2.congr (flg_two (p := fun t => (f.take k).any (Pl.occF · t)) (q := fun t => (f.take (k + 1)).any (Pl.occF · t)) HT.out)⟩
      case measure => simp [intOf]; omega
    · obtain ⟨k0, k1, _, _⟩ := y0.facts
      replace o0 := o0.congr (q := fun t => f.any (Pl.occF · t)) (fun t _ => by rw [take_eq_all hlt])
      go_wp2_with fail
      obtain ⟨wo, rfl⟩ : ∃ wo : World, wo = wr := ⟨_, rfl⟩
      clear k0 k1
      go_loopw [5] (fun i wr => ∃ k : Nat, k ≤ a.length ∧ i = .int .i64 k ∧ Grow w wr ∧ Box2 wr w.heap.size 31 (.slice A f.length c) (.slice B a.length d) ∧ OFlg wr (w.heap.size + 1) (some ⟨w.heap.size + 1, 0, none⟩) 9 9 (fun t => f.any (Pl.occF · t) || (a.take k).any (Pl.occA · t))) (fun i _ => a.length - (intOf i).toNat)
      case atStart => exact ⟨0, Nat.zero_le _, rfl, hg0, y0, o0.congr (fun t _ => by simp)⟩
      case round =>
        clear hg0 y0 o0
        obtain ⟨j, hj, rfl, hg0, y0, o0⟩ := hrel
        by_cases hlj : j < a.length
        · obtain ⟨b, off, rfl, c0, c1, c2⟩ := IB.at_ hlj
          obtain ⟨_, ha, hb⟩ := (Pl.av_iff _).1 (HA.out _ (List.getElem_mem hlj))
          obtain ⟨x, hx, hx8⟩ := tm_nat ha
          obtain ⟨y, hy, hy8⟩ := tm_nat hb
          have HT := Lib.hid (show ∀ t : Nat, (f.any (Pl.occF · (t : Int)) || (a.take (j + 1)).any (Pl.occA · (t : Int))) = ((f.any (Pl.occF · (t : Int)) || (a.take j).any (Pl.occA · (t : Int))) || (decide ((x : Int) = (t : Int)) || decide ((y : Int) = (t : Int)))) from fun t => by
            rw [take_snoc a j hlj, List.any_append]
            simp only [List.any_cons, List.any_nil, Bool.or_false, Pl.occA, hx, hy, Bool.or_assoc])
          have hb := World.block_lt_of_cell? w _ c1
          have hbg : ¬ b = w.heap.size + 1 := by have hb2 : b < w.heap.size := hb; omega
          have hgb : ¬ w.heap.size + 1 = b := by have hb2 : b < w.heap.size := hb; omega
          replace c1 := hg0.cell c1
          replace c2 := hg0.cell c2
          rw [hx] at c1
          rw [hy] at c2
          obtain ⟨k0, k1, _, _⟩ := y0.facts
          have q0 := o0.at_ (j := x) (by omega)
          have f0 := World.ownsRow.frozenAt o0 x
          have o1 := o0.set (j := x) (by omega) true
          have hx9 : (x : Int) < 9 := by omega
          have hy9 : (y : Int) < 9 := by omega
          clear ha hb hx hy c0
          go_upto_region 11 with (fail)
          have g1 : Grow w (wr.setCell ⟨w.heap.size + 1, x, none⟩ (.bool true)) := hg0.setCell (by show w.heap.size ≤ w.heap.size + 1; omega) _
          have y1 := y0.far (p := ⟨w.heap.size + 1, x, none⟩) (by show w.heap.size ≠ w.heap.size + 1; omega) (.bool true)
          have d2 : (wr.setCell ⟨w.heap.size + 1, x, none⟩ (.bool true)).cell? ⟨b, off + j * 3 + 2, none⟩ = some (.int .i64 (y : Int)) := (World.cell?_setCell_other _ _ _ _ (fun e => hgb (by injection e with e _ _))).trans c2
          clear c1 c2 q0 f0 k0 k1 y0 o0 hg0
          generalize wr.setCell ⟨w.heap.size + 1, x, none⟩ (.bool true) = w1 at *
          obtain ⟨k0, k1, _, _⟩ := y1.facts
          have q1 := o1.at_ (j := y) (by omega)
          have f1 := World.ownsRow.frozenAt o1 y
          have o2 := o1.set (j := y) (by omega) true
          have g2 : Grow w (w1.setCell ⟨w.heap.size + 1, y, none⟩ (.bool true)) := g1.setCell (by show w.heap.size ≤ w.heap.size + 1; omega) _
          have y2 := y1.far (p := ⟨w.heap.size + 1, y, none⟩) (by show w.heap.size ≠ w.heap.size + 1; omega) (.bool true)
          go_wp2_with fail
          go_roundw
          case rel => exact ⟨j + 1, by omega, by go_num, g2, y2, o2.congr (flg_two (p := fun t => f.any (Pl.occF · t) || (a.take j).any (Pl.occA · t)) (q := fun t => f.any (Pl.occF · t) || (a.take (j + 1)).any (Pl.occA · t)) HT.out)⟩
          case measure => simp [intOf]; omega
        · replace o0 := o0.congr (q := Pl.occ ⟨f, a⟩) (fun t _ => by rw [take_eq_all hlj]; rfl)
          obtain ⟨k0, k1, _, _⟩ := y0.facts
          go_wp2_with fail
          go_ret
          exact ⟨_, _, rfl, own_lo o0 (by omega), hg0⟩

set_option maxHeartbeats 1000000 in
theorem sFreshTerm_c (A B : Option Addr) (c d : Nat) (s : Pl.Asr) (w : World) (hS : Asrs w A B s) (h1 : s.f.length ≤ 4194304) (h2 : s.a.length ≤ 4194304) :
    Calls Try.prog 16 #[asval A B c d s] w fun e w' => e = .returned (.tuple #[.int .i64 (Pl.freshR s).1, .bool (Pl.freshR s).2]) ∧ Grow w w' := by
  have y := Box2.new w 31 (.slice A s.f.length c) (.slice B s.a.length d)
  cases ha : Pl.asv s with
  | false =>
    have HA := Lib.hid ha
    have HX := Lib.hid (show Pl.freshR s = (0, false) by unfold Pl.freshR; rw [ha]; rfl)
    clear ha
    go_enter Try.func16, Try.ntmps16
    go_wp2_with fail
    refine (sAssertionValid_c A B c d s _ (hS.grow (by repeat (first | exact Grow.refl _ | assumption | refine Grow.alloc ?_ _ | refine Grow.drew ?_ | refine Grow.drewN ?_ _ | refine Grow.trans ?_ (by assumption) | refine Grow.below ?_ (by assumption) (by first | exact Nat.le_refl _ | omega)))) h1 h2).mono ?_
    rintro e w1 ⟨rfl, g1⟩
    rw [HA.out]
    go_wp2_with fail
    go_ret2
    exact ⟨by rw [HX.out]; rfl, (by repeat (first | exact Grow.refl _ | assumption | refine Grow.alloc ?_ _ | refine Grow.drew ?_ | refine Grow.drewN ?_ _ | refine Grow.trans ?_ (by assumption) | refine Grow.below ?_ (by assumption) (by first | exact Nat.le_refl _ | omega)))⟩
  | true =>
    have HA := Lib.hid ha
    obtain ⟨r, hr⟩ : ∃ r, r = Pl.freshR s := ⟨_, rfl⟩
    have HX := Lib.hid (show r = Pl.freshFrom (Pl.occ s) 4 5 by rw [hr]; unfold Pl.freshR; rw [ha]; rfl)
    rw [← hr]
    clear ha hr
    go_enter Try.func16, Try.ntmps16
    go_wp2_with fail
    refine (sAssertionValid_c A B c d s _ (hS.grow (by repeat (first | exact Grow.refl _ | assumption | refine Grow.alloc ?_ _ | refine Grow.drew ?_ | refine Grow.drewN ?_ _ | refine Grow.trans ?_ (by assumption) | refine Grow.below ?_ (by assumption) (by first | exact Nat.le_refl _ | omega)))) h1 h2).mono ?_
    rintro e w1 ⟨rfl, g1⟩
    rw [HA.out]
    replace y := y.grow g1
    have hS1 := hS.grow (show Grow w w1 from (by repeat (first | exact Grow.refl _ | assumption | refine Grow.alloc ?_ _ | refine Grow.drew ?_ | refine Grow.drewN ?_ _ | refine Grow.trans ?_ (by assumption) | refine Grow.below ?_ (by assumption) (by first | exact Nat.le_refl _ | omega))))
    have G := (show Grow w w1 from (by repeat (first | exact Grow.refl _ | assumption | refine Grow.alloc ?_ _ | refine Grow.drew ?_ | refine Grow.drewN ?_ _ | refine Grow.trans ?_ (by assumption) | refine Grow.below ?_ (by assumption) (by first | exact Nat.le_refl _ | omega))))
    clear g1
    obtain ⟨k0, k1, _, _⟩ := y.facts
    go_wp2_with fail
    refine (l3Terms_c A B c d s _ hS1 HA.out).mono ?_
    rintro e w2 ⟨g, c', rfl, o2, g2⟩
    replace G := G.trans g2
    clear k0 k1 g2
    go_wp2_with fail
    go_loopw [5] (fun i wr => ∃ k : Nat, k ≤ 4 ∧ i = .int .i64 ((5 + k : Nat) : Int) ∧ Pl.freshFrom (Pl.occ s) (4 - k) ((5 + k : Nat) : Int) = r ∧ w2 = wr) (fun i _ => 9 - (intOf i).toNat)
    case atStart => exact ⟨0, by omega, rfl, HX.out.symm, rfl⟩
    case round =>
      obtain ⟨k, hk, rfl, hf, rfl⟩ := hrel
      have HF' := Lib.hid hf
      clear hf
      by_cases hlt : k < 4
      · have q0 := o2.at_ (j := 5 + k) (by omega)
        have hk9 : ((5 + k : Nat) : Int) < 9 := by omega
        cases hq : Pl.occ s ((5 + k : Nat) : Int) with
        | true =>
          have HQ := Lib.hid hq
          rw [hq] at q0
          clear hq
          have HN := Lib.hid (show Pl.freshFrom (Pl.occ s) (4 - (k + 1)) ((5 + (k + 1) : Nat) : Int) = r by
            have h1 := HF'.out
            rw [show 4 - k = (4 - (k + 1)) + 1 from by omega] at h1
            unfold Pl.freshFrom at h1
            rw [HQ.out] at h1
            rw [show ((5 + (k + 1) : Nat) : Int) = ((5 + k : Nat) : Int) + 1 from by omega]
            exact h1)
          go_wp2_with fail
          go_roundw
          case rel => exact ⟨k + 1, by omega, by go_num, HN.out, trivial⟩
          case measure => simp [intOf]; omega
        | false =>
          have HQ := Lib.hid hq
          rw [hq] at q0
          clear hq
          have HN := Lib.hid (show r = (((5 + k : Nat) : Int), true) by
            have h1 := HF'.out
            rw [show 4 - k = (4 - (k + 1)) + 1 from by omega] at h1
            unfold Pl.freshFrom at h1
            rw [HQ.out] at h1
            exact h1.symm)
          go_wp2_with fail
          go_ret2
          exact ⟨by rw [HN.out]; rfl, G⟩
      · have hk4 : k = 4 := by omega
        subst hk4
        have HN := Lib.hid (show r = (0, false) from HF'.out.symm)
        clear hlt hk
        go_wp2_with fail
        go_ret2
        exact ⟨by rw [HN.out]; rfl, G⟩

end Go.Proofs.Ytljamkcapfdgcaa
