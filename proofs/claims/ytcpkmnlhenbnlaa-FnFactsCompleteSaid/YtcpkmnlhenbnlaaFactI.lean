/- Contracts of the functions of the program on facts: classes, consistency, implication. Conditions: the lengths are far from the bounds. -/
import Derived.Test.YtcpkmnlhenbnlaaFactN
namespace Go.Proofs.Ytcpkmnlhenbnlaa
open Go.RowKit
set_option linter.unusedVariables false

theorem made9 (W : World) : (Instr.makeSlice 29 (.int .i64 9) (.int .i64 9)).run Try.prog W = .ok (.slice (some ⟨W.heap.size, 0, none⟩) 9 9) (W.alloc (.cells (madeCells #[.int .i64 0] 9) 3)) := by
  obtain ⟨i0, hi, hz0, hz1, hz2⟩ := info_parts int_info
  have h := run_make_rows (P := Try.prog) 29 3 i0 _ Try.underlying29 hi hz0 .i64 .i64 9 9 (Nat.le_refl _) (by rw [hz2]; omega) (by omega) W
  rw [hz1] at h
  exact h

set_option maxHeartbeats 800000 in
theorem TermClasses_c (A : Option Addr) (d : Nat) (l : List Pl.Fct) (w : World) (hA : Facts w A l) (hn : l.length ≤ 4611686018427387904) :
    Calls Try.prog 30 #[.slice A l.length d] w fun e w' => ∃ A' c', e = .returned (.slice A' (tcl l).length c') ∧ OInts w' w.heap.size (.slice A' (tcl l).length c') (tcl l) ∧ Grow w w' := by
  cases hf : Pl.fsv l with
  | false =>
    have HF := Lib.hid hf
    have HT := Lib.hid (show tcl l = [] by unfold tcl; rw [hf]; rfl)
    clear hf
    go_enter Try.func30, Try.ntmps30
    go_wp2_with (go_at_call 18; refine (FactsValid_c _ _ l _ hA hn).mono ?_; rintro e w' ⟨rfl, hg1⟩; rw [HF.out])
    go_ret
    refine ⟨none, 0, by rw [HT.out]; rfl, ?_, (by repeat (first | exact Grow.refl _ | assumption | refine Grow.alloc ?_ _ | refine Grow.drew ?_ | refine Grow.drewN ?_ _ | refine Grow.trans ?_ (by assumption) | refine Grow.below ?_ (by assumption) (by first | exact Nat.le_refl _ | omega)))⟩
    rw [HT.out]
    exact World.ownsRow_nil _ _ _ _
  | true =>
    have HF := Lib.hid hf
    have HT := Lib.hid (show tcl l = Pl.clsL l by unfold tcl; rw [hf]; rfl)
    clear hf
    have hmk := made9
    go_enter Try.func30, Try.ntmps30
    go_wp2_with (first | (go_at_call 18; refine (FactsValid_c _ _ l _ hA hn).mono ?_; rintro e w1 ⟨rfl, hg1⟩; rw [HF.out]) | (go_at_call 45; refine (newTermUnion_c _ _ l _ (hA.grow hg1) hn ((Pl.fsv_iff l).1 HF.out).2).mono ?_; rintro e w2 ⟨u, rfl, hc, hg2⟩; have hu := UF.made w2 u; unfold uarr at hu; unfold uarr))
    clear hmk
    go_loopw [14] (fun i wr => ∃ k : Nat, k ≤ 9 ∧ i = .int .i64 k ∧ Grow w wr ∧ UF wr w2.heap.size u ∧ Part wr (w2.heap.size + 1) 3 1 9 ((Pl.clsL l).take k |>.map (.int .i64))) (fun i _ => 9 - (intOf i).toNat)
    case atStart => exact ⟨0, by omega, rfl, (by repeat (first | exact Grow.refl _ | assumption | refine Grow.alloc ?_ _ | refine Grow.drew ?_ | refine Grow.drewN ?_ _ | refine Grow.trans ?_ (by assumption) | refine Grow.below ?_ (by assumption) (by first | exact Nat.le_refl _ | omega))), hu.grow (by repeat (first | exact Grow.refl _ | assumption | refine Grow.alloc ?_ _ | refine Grow.drew ?_ | refine Grow.drewN ?_ _ | refine Grow.trans ?_ (by assumption) | refine Grow.below ?_ (by assumption) (by first | exact Nat.le_refl _ | omega))), by have h := Part.made (w2.alloc (.cells #[.int .i64 ((u 0 : Nat) : Int), .int .i64 ((u 1 : Nat) : Int), .int .i64 ((u 2 : Nat) : Int), .int .i64 ((u 3 : Nat) : Int), .int .i64 ((u 4 : Nat) : Int), .int .i64 ((u 5 : Nat) : Int), .int .i64 ((u 6 : Nat) : Int), .int .i64 ((u 7 : Nat) : Int), .int .i64 ((u 8 : Nat) : Int)] 54)) 3 1 9 (madeCells #[.int .i64 0] 9) (by rw [size_madeCells]); simpa using h⟩
    case round =>
      obtain ⟨k, hk, rfl, hg, hu, hp⟩ := hrel
      by_cases hlt : k < 9
      · obtain ⟨x0, k0⟩ := hp.cell (o := k) (by omega)
        have f0 := hp.frozen k
        have hk0 : (k : Int) < 9 := by omega
        have hk8 : (k : Int) ≤ 8 := by omega
        have hk1 : (0 : Int) ≤ (k : Int) := by omega
        have hgw : w.heap.size ≤ w2.heap.size := (hg1.trans hg2).size
        go_wp2_with (go_at_call 47; refine (find_c w2.heap.size u _ _ _ hu hc hk1 hk8).mono ?_; rintro e w' ⟨rfl, rfl⟩)
        go_roundw
        case rel =>
          refine ⟨k + 1, by omega, by go_num, hg.setCell (by show w.heap.size ≤ w2.heap.size + 1; omega) _, ?_, ?_⟩
          · obtain ⟨cur, q1, q2⟩ := hu
            exact ⟨cur, (Below.heap_setCell _ _ _ _ (by show w2.heap.size ≠ w2.heap.size + 1; omega)).trans q1, q2⟩
          · have h := hp.step (o := k) (by simp [Pl.clsL_length]; omega) (by omega) (.int .i64 ((Pl.cls l k : Nat) : Int))
            rw [take_snoc _ k (by rw [Pl.clsL_length]; exact hlt), List.map_append]
            simpa [Pl.clsL] using h
        case measure => simp [intOf]; omega
      · have hk9 : k = 9 := by omega
        subst hk9
        rw [show ((9 : Nat) : Int) = 9 from rfl]
        have hgw : w.heap.size ≤ w2.heap.size := (hg1.trans hg2).size
        go_wp2
        go_ret
        refine ⟨some ⟨w2.heap.size + 1, 0, none⟩, 9, by rw [HT.out, Pl.clsL_length]; rfl, ?_, (by repeat (first | exact Grow.refl _ | assumption | refine Grow.alloc ?_ _ | refine Grow.drew ?_ | refine Grow.drewN ?_ _ | refine Grow.trans ?_ (by assumption) | refine Grow.below ?_ (by assumption) (by first | exact Nat.le_refl _ | omega)))⟩
        rw [HT.out]
        rw [List.take_of_length_le (by rw [Pl.clsL_length]; omega)] at hp
        have h := hp.full (by simp [Pl.clsL_length]) (lo := w.heap.size) (by omega) (by unfold maxLen; omega)
        show World.ownsRow _ _ _ _ (.slice _ (Pl.clsL l).length _) (Pl.clsL l).length _
        rw [Pl.clsL_length]
        exact h

theorem FactsConsistent_c (A : Option Addr) (d : Nat) (l : List Pl.Fct) (w : World) (hA : Facts w A l) (hn : l.length ≤ 4611686018427387904) :
    Calls Try.prog 25 #[.slice A l.length d] w fun e w' => e = .returned (.bool (Pl.fcon l)) ∧ Grow w w' := by
  cases hf : Pl.fsv l with
  | false =>
    have HF := Lib.hid hf
    have H := Lib.hid (show Pl.fcon l = false by unfold Pl.fcon; rw [hf]; rfl)
    clear hf
    go_enter Try.func25, Try.ntmps25
    go_wp2_with (go_at_call 18; refine (FactsValid_c _ _ l _ hA hn).mono ?_; rintro e w' ⟨rfl, hg1⟩; rw [HF.out])
    go_ret
    exact ⟨by rw [H.out]; rfl, (by repeat (first | exact Grow.refl _ | assumption | refine Grow.alloc ?_ _ | refine Grow.drew ?_ | refine Grow.drewN ?_ _ | refine Grow.trans ?_ (by assumption) | refine Grow.below ?_ (by assumption) (by first | exact Nat.le_refl _ | omega)))⟩
  | true =>
    have HF := Lib.hid hf
    have H := Lib.hid (show Pl.fcon l = Pl.sep (Pl.cls l) l by unfold Pl.fcon; rw [hf]; rfl)
    clear hf
    go_enter Try.func25, Try.ntmps25
    go_wp2_with (first | (go_at_call 18; refine (FactsValid_c _ _ l _ hA hn).mono ?_; rintro e w1 ⟨rfl, hg1⟩; rw [HF.out]) | (go_at_call 45; refine (newTermUnion_c _ _ l _ (hA.grow hg1) hn ((Pl.fsv_iff l).1 HF.out).2).mono ?_; rintro e w2 ⟨u, rfl, hc, hg2⟩; have hu := UF.made w2 u; unfold uarr at hu; unfold uarr) | (go_at_call 46; refine (allows_c w2.heap.size u _ _ _ l _ hu hc (hA.grow (by repeat (first | exact Grow.refl _ | assumption | refine Grow.alloc ?_ _ | refine Grow.drew ?_ | refine Grow.drewN ?_ _ | refine Grow.trans ?_ (by assumption) | refine Grow.below ?_ (by assumption) (by first | exact Nat.le_refl _ | omega)))) hn ((Pl.fsv_iff l).1 HF.out).2).mono ?_; rintro e w3 ⟨rfl, hg3⟩))
    go_ret
    exact ⟨by rw [H.out]; rfl, (by repeat (first | exact Grow.refl _ | assumption | refine Grow.alloc ?_ _ | refine Grow.drew ?_ | refine Grow.drewN ?_ _ | refine Grow.trans ?_ (by assumption) | refine Grow.below ?_ (by assumption) (by first | exact Nat.le_refl _ | omega)))⟩

theorem fimp_iff (l : List Pl.Fct) (f : Pl.Fct) (hf : Pl.fsv l = true) (hv : Pl.fv f = true) :
    Pl.fimp l f = (if Pl.sep (Pl.cls l) l = false then true else if f.e = true then decide (Pl.cls l f.a.toNat = Pl.cls l f.b.toNat) else !Pl.sep (Pl.stp (Pl.cls l) ⟨true, f.a, f.b⟩) l) := by
  unfold Pl.fimp; rw [hf, hv, Pl.fimp_way]; rfl


set_option maxHeartbeats 1000000 in
theorem FactsImply_c (A : Option Addr) (d : Nat) (l : List Pl.Fct) (f : Pl.Fct) (w : World) (hA : Facts w A l) (hn : l.length ≤ 4611686018427387904) :
    Calls Try.prog 28 #[.slice A l.length d, fval f] w fun e w' => e = .returned (.bool (Pl.fimp l f)) ∧ Grow w w' := by
  obtain ⟨x, a, b⟩ := f
  cases hf : Pl.fsv l with
  | false =>
    have HF := Lib.hid hf
    have H := Lib.hid (show Pl.fimp l ⟨x, a, b⟩ = false by unfold Pl.fimp; rw [hf]; rfl)
    clear hf
    go_enter Try.func28, Try.ntmps28
    go_wp2_with (go_at_call 18; refine (FactsValid_c _ _ l _ (hA.grow (by repeat (first | exact Grow.refl _ | assumption | refine Grow.alloc ?_ _ | refine Grow.drew ?_ | refine Grow.drewN ?_ _ | refine Grow.trans ?_ (by assumption) | refine Grow.below ?_ (by assumption) (by first | exact Nat.le_refl _ | omega)))) hn).mono ?_; rintro e w' ⟨rfl, hg1⟩; rw [HF.out])
    go_ret
    exact ⟨by rw [H.out]; rfl, (by repeat (first | exact Grow.refl _ | assumption | refine Grow.alloc ?_ _ | refine Grow.drew ?_ | refine Grow.drewN ?_ _ | refine Grow.trans ?_ (by assumption) | refine Grow.below ?_ (by assumption) (by first | exact Nat.le_refl _ | omega)))⟩
  | true =>
    have HF := Lib.hid hf
    cases hv : Pl.fv ⟨x, a, b⟩ with
    | false =>
      have HV := Lib.hid hv
      have H := Lib.hid (show Pl.fimp l ⟨x, a, b⟩ = false by unfold Pl.fimp; rw [hf, hv]; rfl)
      clear hf hv
      go_enter Try.func28, Try.ntmps28
      go_wp2_with (first | (go_at_call 18; refine (FactsValid_c _ _ l _ (hA.grow (by repeat (first | exact Grow.refl _ | assumption | refine Grow.alloc ?_ _ | refine Grow.drew ?_ | refine Grow.drewN ?_ _ | refine Grow.trans ?_ (by assumption) | refine Grow.below ?_ (by assumption) (by first | exact Nat.le_refl _ | omega)))) hn).mono ?_; rintro e w' ⟨rfl, hg1⟩; obtain ⟨q0, q1, q2⟩ := box3 hg1; rw [HF.out]) | (go_at_call 38; refine (FactValid_c ⟨x, a, b⟩ _).mono ?_; rintro e w1' ⟨rfl, hg1'⟩; rw [HV.out]))
      go_ret
      exact ⟨by rw [H.out]; rfl, (by repeat (first | exact Grow.refl _ | assumption | refine Grow.alloc ?_ _ | refine Grow.drew ?_ | refine Grow.drewN ?_ _ | refine Grow.trans ?_ (by assumption) | refine Grow.below ?_ (by assumption) (by first | exact Nat.le_refl _ | omega)))⟩
    | true =>
      have HV := Lib.hid hv
      have H := Lib.hid (fimp_iff l ⟨x, a, b⟩ hf hv)
      obtain ⟨⟨a0, a8⟩, ⟨b0, b8⟩⟩ := (Pl.fv_iff _).1 hv
      simp only at a0 a8 b0 b8
      clear hf hv
      cases hs : Pl.sep (Pl.cls l) l with
      | false =>
        have HS := Lib.hid hs
        clear hs
        have hv2 := ((Pl.fsv_iff l).1 HF.out).2
        have HV2 := Lib.hid hv2
        clear hv2
        go_enter Try.func28, Try.ntmps28
        go_wp2_with (first | (go_at_call 18; refine (FactsValid_c _ _ l _ (hA.grow (by repeat (first | exact Grow.refl _ | assumption | refine Grow.alloc ?_ _ | refine Grow.drew ?_ | refine Grow.drewN ?_ _ | refine Grow.trans ?_ (by assumption) | refine Grow.below ?_ (by assumption) (by first | exact Nat.le_refl _ | omega)))) hn).mono ?_; rintro e w1 ⟨rfl, hg1⟩; obtain ⟨q0, q1, q2⟩ := box3 hg1; rw [HF.out]) | (go_at_call 38; refine (FactValid_c ⟨_, a, b⟩ _).mono ?_; rintro e w1' ⟨rfl, hg1'⟩; have r0 := hg1'.cell q0; have r1 := hg1'.cell q1; have r2 := hg1'.cell q2; rw [HV.out]) | (go_at_call 45; refine (newTermUnion_c _ _ l _ (hA.grow (by repeat (first | exact Grow.refl _ | assumption | refine Grow.alloc ?_ _ | refine Grow.drew ?_ | refine Grow.drewN ?_ _ | refine Grow.trans ?_ (by assumption) | refine Grow.below ?_ (by assumption) (by first | exact Nat.le_refl _ | omega)))) hn HV2.out).mono ?_; rintro e w2 ⟨u, rfl, hc, hg2⟩; have hu := UF.made w2 u; unfold uarr at hu; unfold uarr) | (go_at_call 46; refine (allows_c w2.heap.size u _ _ _ l _ hu hc (hA.grow (by repeat (first | exact Grow.refl _ | assumption | refine Grow.alloc ?_ _ | refine Grow.drew ?_ | refine Grow.drewN ?_ _ | refine Grow.trans ?_ (by assumption) | refine Grow.below ?_ (by assumption) (by first | exact Nat.le_refl _ | omega)))) hn HV2.out).mono ?_; rintro e w3 ⟨rfl, hg3⟩; have hgs : Grow w1' w3 := (by repeat (first | exact Grow.refl _ | assumption | refine Grow.alloc ?_ _ | refine Grow.drew ?_ | refine Grow.drewN ?_ _ | refine Grow.trans ?_ (by assumption) | refine Grow.below ?_ (by assumption) (by first | exact Nat.le_refl _ | omega))); have s0 := hgs.cell r0; have s1 := hgs.cell r1; have s2 := hgs.cell r2; rw [HS.out]))
        go_ret
        exact ⟨by rw [H.out, HS.out]; rfl, (by repeat (first | exact Grow.refl _ | assumption | refine Grow.alloc ?_ _ | refine Grow.drew ?_ | refine Grow.drewN ?_ _ | refine Grow.trans ?_ (by assumption) | refine Grow.below ?_ (by assumption) (by first | exact Nat.le_refl _ | omega)))⟩
      | true =>
        have HS := Lib.hid hs
        clear hs
        cases x with
        | true =>
          have hv2 := ((Pl.fsv_iff l).1 HF.out).2
          have HV2 := Lib.hid hv2
          clear hv2
          go_enter Try.func28, Try.ntmps28
          go_wp2_with (first | (go_at_call 18; refine (FactsValid_c _ _ l _ (hA.grow (by repeat (first | exact Grow.refl _ | assumption | refine Grow.alloc ?_ _ | refine Grow.drew ?_ | refine Grow.drewN ?_ _ | refine Grow.trans ?_ (by assumption) | refine Grow.below ?_ (by assumption) (by first | exact Nat.le_refl _ | omega)))) hn).mono ?_; rintro e w1 ⟨rfl, hg1⟩; obtain ⟨q0, q1, q2⟩ := box3 hg1; rw [HF.out]) | (go_at_call 38; refine (FactValid_c ⟨_, a, b⟩ _).mono ?_; rintro e w1' ⟨rfl, hg1'⟩; have r0 := hg1'.cell q0; have r1 := hg1'.cell q1; have r2 := hg1'.cell q2; rw [HV.out]) | (go_at_call 45; refine (newTermUnion_c _ _ l _ (hA.grow (by repeat (first | exact Grow.refl _ | assumption | refine Grow.alloc ?_ _ | refine Grow.drew ?_ | refine Grow.drewN ?_ _ | refine Grow.trans ?_ (by assumption) | refine Grow.below ?_ (by assumption) (by first | exact Nat.le_refl _ | omega)))) hn HV2.out).mono ?_; rintro e w2 ⟨u, rfl, hc, hg2⟩; have hu := UF.made w2 u; unfold uarr at hu; unfold uarr) | (go_at_call 46; refine (allows_c w2.heap.size u _ _ _ l _ hu hc (hA.grow (by repeat (first | exact Grow.refl _ | assumption | refine Grow.alloc ?_ _ | refine Grow.drew ?_ | refine Grow.drewN ?_ _ | refine Grow.trans ?_ (by assumption) | refine Grow.below ?_ (by assumption) (by first | exact Nat.le_refl _ | omega)))) hn HV2.out).mono ?_; rintro e w3 ⟨rfl, hg3⟩; have hgs : Grow w1' w3 := (by repeat (first | exact Grow.refl _ | assumption | refine Grow.alloc ?_ _ | refine Grow.drew ?_ | refine Grow.drewN ?_ _ | refine Grow.trans ?_ (by assumption) | refine Grow.below ?_ (by assumption) (by first | exact Nat.le_refl _ | omega))); have s0 := hgs.cell r0; have s1 := hgs.cell r1; have s2 := hgs.cell r2; rw [HS.out]))
          have hu3 := hu.grow hg3
          go_quiet ((go_at_call 47; exact qcall (find_c w2.heap.size u _ _ _ (hu3.grow (by repeat (first | exact Grow.refl _ | assumption | refine Grow.alloc ?_ _ | refine Grow.drew ?_ | refine Grow.drewN ?_ _ | refine Grow.trans ?_ (by assumption) | refine Grow.below ?_ (by assumption) (by first | exact Nat.le_refl _ | omega)))) hc (by assumption) (by assumption))))
          go_wp2
          go_ret
          refine ⟨?_, (by repeat (first | exact Grow.refl _ | assumption | refine Grow.alloc ?_ _ | refine Grow.drew ?_ | refine Grow.drewN ?_ _ | refine Grow.trans ?_ (by assumption) | refine Grow.below ?_ (by assumption) (by first | exact Nat.le_refl _ | omega)))⟩
          rw [H.out, HS.out]
          exact congrArg Ending.returned (congrArg Value.bool (by rw [Bool.eq_iff_iff]; simp; omega))
        | false =>
          have hv2 := ((Pl.fsv_iff l).1 HF.out).2
          have HV2 := Lib.hid hv2
          clear hv2
          go_enter Try.func28, Try.ntmps28
          go_wp2_with (first | (go_at_call 18; refine (FactsValid_c _ _ l _ (hA.grow (by repeat (first | exact Grow.refl _ | assumption | refine Grow.alloc ?_ _ | refine Grow.drew ?_ | refine Grow.drewN ?_ _ | refine Grow.trans ?_ (by assumption) | refine Grow.below ?_ (by assumption) (by first | exact Nat.le_refl _ | omega)))) hn).mono ?_; rintro e w1 ⟨rfl, hg1⟩; obtain ⟨q0, q1, q2⟩ := box3 hg1; rw [HF.out]) | (go_at_call 38; refine (FactValid_c ⟨_, a, b⟩ _).mono ?_; rintro e w1' ⟨rfl, hg1'⟩; have r0 := hg1'.cell q0; have r1 := hg1'.cell q1; have r2 := hg1'.cell q2; rw [HV.out]) | (go_at_call 45; refine (newTermUnion_c _ _ l _ (hA.grow (by repeat (first | exact Grow.refl _ | assumption | refine Grow.alloc ?_ _ | refine Grow.drew ?_ | refine Grow.drewN ?_ _ | refine Grow.trans ?_ (by assumption) | refine Grow.below ?_ (by assumption) (by first | exact Nat.le_refl _ | omega)))) hn HV2.out).mono ?_; rintro e w2 ⟨u, rfl, hc, hg2⟩; have hu := UF.made w2 u; unfold uarr at hu; unfold uarr) | (go_at_call 46; refine (allows_c w2.heap.size u _ _ _ l _ hu hc (hA.grow (by repeat (first | exact Grow.refl _ | assumption | refine Grow.alloc ?_ _ | refine Grow.drew ?_ | refine Grow.drewN ?_ _ | refine Grow.trans ?_ (by assumption) | refine Grow.below ?_ (by assumption) (by first | exact Nat.le_refl _ | omega)))) hn HV2.out).mono ?_; rintro e w3 ⟨rfl, hg3⟩; have hgs : Grow w1' w3 := (by repeat (first | exact Grow.refl _ | assumption | refine Grow.alloc ?_ _ | refine Grow.drew ?_ | refine Grow.drewN ?_ _ | refine Grow.trans ?_ (by assumption) | refine Grow.below ?_ (by assumption) (by first | exact Nat.le_refl _ | omega))); have s0 := hgs.cell r0; have s1 := hgs.cell r1; have s2 := hgs.cell r2; rw [HS.out]))
          have hu3 := hu.grow hg3
          have hg0 : Grow w w3 := (by repeat (first | exact Grow.refl _ | assumption | refine Grow.alloc ?_ _ | refine Grow.drew ?_ | refine Grow.drewN ?_ _ | refine Grow.trans ?_ (by assumption) | refine Grow.below ?_ (by assumption) (by first | exact Nat.le_refl _ | omega)))
          have hle : w.heap.size ≤ w2.heap.size := (show Grow w w2 from (by repeat (first | exact Grow.refl _ | assumption | refine Grow.alloc ?_ _ | refine Grow.drew ?_ | refine Grow.drewN ?_ _ | refine Grow.trans ?_ (by assumption) | refine Grow.below ?_ (by assumption) (by first | exact Nat.le_refl _ | omega)))).size
          refine (join_c w2.heap.size u _ ⟨true, a, b⟩ _ hu3 hc (Pl.good_cls l) rfl HV.out).mono ?_
          rintro e w4 ⟨rfl, u4, hu4, hc4, hgr4⟩
          have hg4 : Grow w w4 := hg0.grown hgr4 (by intro q hq; injection hq with hq; omega)
          go_wp2_with (go_at_call 46; refine (allows_c w2.heap.size u4 _ _ _ l _ hu4 hc4 (hA.grow hg4) hn HV2.out).mono ?_; rintro e w5 ⟨rfl, hg5⟩)
          go_ret
          exact ⟨by rw [H.out, HS.out]; rfl, (by repeat (first | exact Grow.refl _ | assumption | refine Grow.alloc ?_ _ | refine Grow.drew ?_ | refine Grow.drewN ?_ _ | refine Grow.trans ?_ (by assumption) | refine Grow.below ?_ (by assumption) (by first | exact Nat.le_refl _ | omega)))⟩

end Go.Proofs.Ytcpkmnlhenbnlaa
