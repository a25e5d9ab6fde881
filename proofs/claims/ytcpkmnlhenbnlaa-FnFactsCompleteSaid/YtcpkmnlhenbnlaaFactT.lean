/- Contracts of the functions of the reference on facts, continued: split, classes, consistency, implication. Conditions: the lengths are far from the bounds. -/
import Derived.Test.YtcpkmnlhenbnlaaFactS
import Derived.Deep.RegionHeld3
import Derived.Deep.AppendLies
namespace Go.Proofs.Ytcpkmnlhenbnlaa
open Go.RowKit
set_option linter.unusedVariables false

set_option maxHeartbeats 800000 in
theorem l1Split_c (A : Option Addr) (d : Nat) (l : List Pl.Fct) (w : World) (hA : Facts w A l) (hn : l.length ≤ 4611686018427387904) (hf : ∀ f ∈ l, Pl.fv f = true) :
    Calls Try.prog 44 #[.slice A l.length d] w fun e w' => e = .returned (.bool (Pl.sep (Pl.cls l) l)) ∧ Grow w w' := by
  have HF := Lib.hid hf
  clear hf
  generalize hcl : Pl.cls l = c
  have HC := Lib.hid hcl
  clear hcl
  go_enter Try.func44, Try.ntmps44
  go_wp2_with (go_at_call 49; refine (l1Classes_c _ _ l _ hA hn HF.out).mono ?_; rintro e w1 ⟨g, c', rfl, ho, hg1⟩; rw [HC.out] at ho)
  go_loopw [4] (fun i wr => ∃ k : Nat, k ≤ l.length ∧ i = .int .i64 k ∧ (∀ f ∈ l.take k, (f.e || !decide (c f.a.toNat = c f.b.toNat)) = true) ∧ Grow w1 wr) (fun i _ => l.length - (intOf i).toNat)
  case atStart => exact ⟨0, Nat.zero_le _, rfl, by simp, (by repeat (first | exact Grow.refl _ | assumption | refine Grow.alloc ?_ _ | refine Grow.drew ?_ | refine Grow.drewN ?_ _ | refine Grow.trans ?_ (by assumption) | refine Grow.below ?_ (by assumption) (by first | exact Nat.le_refl _ | omega)))⟩
  case round =>
    obtain ⟨k, hk, rfl, hv, hg⟩ := hrel
    have HV := Lib.hid hv
    clear hv
    by_cases hlt : k < l.length
    · obtain ⟨b, off, rfl, c0, c1, c2⟩ := (hA.grow (hg1.trans hg)).at_ hlt
      obtain ⟨⟨a0, a1⟩, ⟨b0, b1⟩⟩ := (Pl.fv_iff _).1 (HF.out l[k] (List.getElem_mem hlt))
      have ho2 := own_grow ho hg
      have k0 := own_cellAt ho2 (cl9_get c (t := l[k].a.toNat) (by omega))
      have k1 := own_cellAt ho2 (cl9_get c (t := l[k].b.toNat) (by omega))
      clear ho2
      have i0 : (0 : Int) ≤ (k : Int) := by omega
      have i1 : (k : Int) < (l.length : Int) := by omega
      have a9 : l[k].a < 9 := by omega
      have b9 : l[k].b < 9 := by omega
      cases he : l[k].e with
      | true =>
        have HE := Lib.hid he
        rw [he] at c0
        clear he
        go_wp2_with fail
        go_quiet (fail)
        go_wp2
        go_roundw
        case rel => exact ⟨k + 1, by omega, by go_num, all_step hlt HV.out (by rw [HE.out]; rfl), (by repeat (first | exact Grow.refl _ | assumption | refine Grow.alloc ?_ _ | refine Grow.drew ?_ | refine Grow.drewN ?_ _ | refine Grow.trans ?_ (by assumption) | refine Grow.below ?_ (by assumption) (by first | exact Nat.le_refl _ | omega)))⟩
        case measure => simp [intOf]; omega
      | false =>
        have HE := Lib.hid he
        rw [he] at c0
        clear he
        by_cases hcc : c l[k].a.toNat = c l[k].b.toNat
        · have H := Lib.hid (show Pl.sep c l = false by unfold Pl.sep; exact all_false (p := fun f => f.e || !decide (c f.a.toNat = c f.b.toNat)) hlt (by rw [HE.out, hcc]; simp))
          have hb : (((c l[k].a.toNat : Nat) : Int) == ((c l[k].b.toNat : Nat) : Int)) = true := by simp [hcc]
          clear hcc
          go_wp2_with fail
          go_quiet (fail)
          go_wp2
          go_ret
          exact ⟨by rw [H.out]; rfl, (by repeat (first | exact Grow.refl _ | assumption | refine Grow.alloc ?_ _ | refine Grow.drew ?_ | refine Grow.drewN ?_ _ | refine Grow.trans ?_ (by assumption) | refine Grow.below ?_ (by assumption) (by first | exact Nat.le_refl _ | omega)))⟩
        · have hb : (((c l[k].a.toNat : Nat) : Int) == ((c l[k].b.toNat : Nat) : Int)) = false := by simp; omega
          have HC := Lib.hid hcc
          clear hcc
          go_wp2_with fail
          go_quiet (fail)
          go_wp2
          go_roundw
          case rel => exact ⟨k + 1, by omega, by go_num, all_step hlt HV.out (by rw [decide_eq_false HC.out]; simp), (by repeat (first | exact Grow.refl _ | assumption | refine Grow.alloc ?_ _ | refine Grow.drew ?_ | refine Grow.drewN ?_ _ | refine Grow.trans ?_ (by assumption) | refine Grow.below ?_ (by assumption) (by first | exact Nat.le_refl _ | omega)))⟩
          case measure => simp [intOf]; omega
    · have H := Lib.hid (show Pl.sep c l = true by unfold Pl.sep; exact all_done (p := fun f => f.e || !decide (c f.a.toNat = c f.b.toNat)) hlt HV.out)
      go_wp2
      go_ret
      exact ⟨by rw [H.out]; rfl, (by repeat (first | exact Grow.refl _ | assumption | refine Grow.alloc ?_ _ | refine Grow.drew ?_ | refine Grow.drewN ?_ _ | refine Grow.trans ?_ (by assumption) | refine Grow.below ?_ (by assumption) (by first | exact Nat.le_refl _ | omega)))⟩

theorem sFactsConsistent_c (A : Option Addr) (d : Nat) (l : List Pl.Fct) (w : World) (hA : Facts w A l) (hn : l.length ≤ 4611686018427387904) :
    Calls Try.prog 24 #[.slice A l.length d] w fun e w' => e = .returned (.bool (Pl.fcon l)) ∧ Grow w w' := by
  cases hf : Pl.fsv l with
  | false =>
    have HF := Lib.hid hf
    have H := Lib.hid (show Pl.fcon l = false by unfold Pl.fcon; rw [hf]; rfl)
    clear hf
    go_enter Try.func24, Try.ntmps24
    go_wp2_with (go_at_call 16; refine (sFactsValid_c _ _ l _ hA hn).mono ?_; rintro e w' ⟨rfl, hg1⟩; rw [HF.out])
    go_ret
    exact ⟨by rw [H.out]; rfl, (by repeat (first | exact Grow.refl _ | assumption | refine Grow.alloc ?_ _ | refine Grow.drew ?_ | refine Grow.drewN ?_ _ | refine Grow.trans ?_ (by assumption) | refine Grow.below ?_ (by assumption) (by first | exact Nat.le_refl _ | omega)))⟩
  | true =>
    have HF := Lib.hid hf
    have H := Lib.hid (show Pl.fcon l = Pl.sep (Pl.cls l) l by unfold Pl.fcon; rw [hf]; rfl)
    clear hf
    go_enter Try.func24, Try.ntmps24
    go_wp2_with (first | (go_at_call 16; refine (sFactsValid_c _ _ l _ hA hn).mono ?_; rintro e w1 ⟨rfl, hg1⟩; rw [HF.out]) | (go_at_call 44; refine (l1Split_c _ _ l _ (hA.grow hg1) hn ((Pl.fsv_iff l).1 HF.out).2).mono ?_; rintro e w2 ⟨rfl, hg2⟩))
    go_ret
    exact ⟨by rw [H.out]; rfl, (by repeat (first | exact Grow.refl _ | assumption | refine Grow.alloc ?_ _ | refine Grow.drew ?_ | refine Grow.drewN ?_ _ | refine Grow.trans ?_ (by assumption) | refine Grow.below ?_ (by assumption) (by first | exact Nat.le_refl _ | omega)))⟩

theorem cl9_clsL (l : List Pl.Fct) : cl9 (Pl.cls l) = Pl.clsL l := rfl
theorem sTermClasses_c (A : Option Addr) (d : Nat) (l : List Pl.Fct) (w : World) (hA : Facts w A l) (hn : l.length ≤ 4611686018427387904) :
    Calls Try.prog 29 #[.slice A l.length d] w fun e w' => ∃ A' c', e = .returned (.slice A' (tcl l).length c') ∧ OInts w' w.heap.size (.slice A' (tcl l).length c') (tcl l) ∧ Grow w w' := by
  cases hf : Pl.fsv l with
  | false =>
    have HF := Lib.hid hf
    have HT := Lib.hid (show tcl l = [] by unfold tcl; rw [hf]; rfl)
    clear hf
    go_enter Try.func29, Try.ntmps29
    go_wp2_with (go_at_call 16; refine (sFactsValid_c _ _ l _ hA hn).mono ?_; rintro e w1 ⟨rfl, hg1⟩; rw [HF.out])
    go_ret
    refine ⟨some ⟨w1.heap.size, 0, none⟩, 0, by rw [HT.out]; rfl, ?_, (by repeat (first | exact Grow.refl _ | assumption | refine Grow.alloc ?_ _ | refine Grow.drew ?_ | refine Grow.drewN ?_ _ | refine Grow.trans ?_ (by assumption) | refine Grow.below ?_ (by assumption) (by first | exact Nat.le_refl _ | omega)))⟩
    rw [HT.out]
    exact own_lo (World.ownsRow_lit _ #[] 0 (Nat.le_refl _) (by unfold maxLen; omega) rfl) hg1.size
  | true =>
    have HF := Lib.hid hf
    have HT := Lib.hid (show tcl l = Pl.clsL l by unfold tcl; rw [hf]; rfl)
    clear hf
    go_enter Try.func29, Try.ntmps29
    go_wp2_with (first | (go_at_call 16; refine (sFactsValid_c _ _ l _ hA hn).mono ?_; rintro e w1 ⟨rfl, hg1⟩; rw [HF.out]) | (go_at_call 49; refine (l1Classes_c _ _ l _ (hA.grow hg1) hn ((Pl.fsv_iff l).1 HF.out).2).mono ?_; rintro e w2 ⟨g, c', rfl, ho, hg2⟩; rw [cl9_clsL] at ho))
    go_ret
    refine ⟨some ⟨g, 0, none⟩, c', by rw [HT.out, Pl.clsL_length]; rfl, ?_, (by repeat (first | exact Grow.refl _ | assumption | refine Grow.alloc ?_ _ | refine Grow.drew ?_ | refine Grow.drewN ?_ _ | refine Grow.trans ?_ (by assumption) | refine Grow.below ?_ (by assumption) (by first | exact Nat.le_refl _ | omega)))⟩
    rw [HT.out]
    show World.ownsRow _ _ _ _ (.slice _ (Pl.clsL l).length _) (Pl.clsL l).length _
    rw [Pl.clsL_length]
    exact own_lo ho hg1.size

end Go.Proofs.Ytcpkmnlhenbnlaa
