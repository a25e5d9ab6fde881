/- FnTermClasses: whatever facts are drawn, the class of a term is its own class, is equal to the term by the facts, and equal terms have the same class. No conditions. -/
import Derived.Test.YtcpkmnlhenbnlaaFactI
import Derived.Test.YtcpkmnlhenbnlaaFactT
import Derived.Test.YtcpkmnlhenbnlaaDrawG
import Derived.Test.YtcpkmnlhenbnlaaAid
import Derived.Test.YtcpkmnlhenbnlaaRowAid
namespace Go.Proofs.Ytcpkmnlhenbnlaa.lawFnTermClasses
open Go.ChangeShapes Go.WideShapes Go.ChangeAt Go.RowKit Go.Joins Go.Deep
open Go.ChangeMaps (open_string shut_string)
set_option linter.unusedVariables false

set_option maxHeartbeats 1600000 in
theorem walk (A : Option Addr) (c n : Nat) (w : World) (hA : Bytes w A n) (hn : n ≤ 9223372036854775807) (hnc : n ≤ c) :
    Calls Try.prog 12 #[.slice A n c] w fun e w' => e = .returned (.bool true) ∧ Grow w w' := by
  by_cases hn20 : (1048576 : Int) < (n : Int)
  · go_enter Try.func12, Try.ntmps12
    go_wp2
    go_ret
    exact ⟨rfl, (by repeat (first | exact Grow.refl _ | assumption | refine Grow.alloc ?_ _ | refine Grow.drew ?_ | refine Grow.drewN ?_ _ | refine Grow.trans ?_ (by assumption) | refine Grow.below ?_ (by assumption) (by first | exact Nat.le_refl _ | omega)))⟩
  go_enter Try.func12, Try.ntmps12
  go_wp2_with fail
  refine (DrawTermClasses_c A n c _ hA hn hnc).mono ?_
  rintro e w1 ⟨l, A1, c1, hl, rfl, o1, g1⟩
  have F1 := OFacts.facts rfl o1
  have ht := tcl_len l
  cases hf : Pl.fsv l with
  | false =>
    have HF := Lib.hid hf
    clear hf
    go_wp2_with fail
    refine (TermClasses_c _ _ l _ F1 (by omega)).mono ?_
    rintro e w2 ⟨A2, c2, rfl, o2, g2⟩
    go_wp2_with fail
    refine (sTermClasses_c _ _ l _ (F1.grow (by repeat (first | exact Grow.refl _ | assumption | refine Grow.alloc ?_ _ | refine Grow.drew ?_ | refine Grow.drewN ?_ _ | refine Grow.trans ?_ (by assumption) | refine Grow.below ?_ (by assumption) (by first | exact Nat.le_refl _ | omega)))) (by omega)).mono ?_
    rintro e w3 ⟨A3, c3, rfl, o3, g3⟩
    go_wp2_with fail
    refine (slInts_c _ _ _ _ (tcl l) (tcl l) _ ((OInts.ints rfl o2).grow (by repeat (first | exact Grow.refl _ | assumption | refine Grow.alloc ?_ _ | refine Grow.drew ?_ | refine Grow.drewN ?_ _ | refine Grow.trans ?_ (by assumption) | refine Grow.below ?_ (by assumption) (by first | exact Nat.le_refl _ | omega)))) (OInts.ints rfl o3) (by omega) (by omega)).mono ?_
    rintro e w4 ⟨rfl, g4⟩
    go_wp2_with fail
    refine (FactsValid_c _ _ l _ (F1.grow (by repeat (first | exact Grow.refl _ | assumption | refine Grow.alloc ?_ _ | refine Grow.drew ?_ | refine Grow.drewN ?_ _ | refine Grow.trans ?_ (by assumption) | refine Grow.below ?_ (by assumption) (by first | exact Nat.le_refl _ | omega)))) (by omega)).mono ?_
    rintro e w5 ⟨rfl, g5⟩
    rw [HF.out]
    go_wp2_with fail
    refine (sTermClasses_c _ _ l _ (F1.grow (by repeat (first | exact Grow.refl _ | assumption | refine Grow.alloc ?_ _ | refine Grow.drew ?_ | refine Grow.drewN ?_ _ | refine Grow.trans ?_ (by assumption) | refine Grow.below ?_ (by assumption) (by first | exact Nat.le_refl _ | omega)))) (by omega)).mono ?_
    rintro e w6 ⟨A6, c6, rfl, o6, g6⟩
    go_wp2_with fail
    refine (slInts_c _ _ _ _ (tcl l) (tcl l) _ ((OInts.ints rfl o2).grow (by repeat (first | exact Grow.refl _ | assumption | refine Grow.alloc ?_ _ | refine Grow.drew ?_ | refine Grow.drewN ?_ _ | refine Grow.trans ?_ (by assumption) | refine Grow.below ?_ (by assumption) (by first | exact Nat.le_refl _ | omega)))) (OInts.ints rfl o6) (by omega) (by omega)).mono ?_
    rintro e w7 ⟨rfl, g7⟩
    go_wp2_with fail
    go_ret
    exact ⟨by simp, (by repeat (first | exact Grow.refl _ | assumption | refine Grow.alloc ?_ _ | refine Grow.drew ?_ | refine Grow.drewN ?_ _ | refine Grow.trans ?_ (by assumption) | refine Grow.below ?_ (by assumption) (by first | exact Nat.le_refl _ | omega)))⟩
  | true =>
    have HF := Lib.hid hf
    have hT : tcl l = Pl.clsL l := by unfold tcl; rw [hf]; rfl
    have h1 := fun W hF => TermClasses_c A1 c1 l W hF (by omega)
    have h2 := fun W hF => sTermClasses_c A1 c1 l W hF (by omega)
    rw [hT, Pl.clsL_length] at h1 h2
    have H1 := Lib.hid h1
    have H2 := Lib.hid h2
    have hl9 : 9 = (Pl.clsL l).length := (Pl.clsL_length l).symm
    have HL9 := Lib.hid hl9
    clear hf h1 h2 hT ht hl9
    go_wp2_with fail
    refine (H1.out _ F1).mono ?_
    rintro e w2 ⟨A2, c2, rfl, o2, g2⟩
    have I2 : Ints w2 A2 (Pl.clsL l) := OInts.ints HL9.out o2
    go_wp2_with fail
    refine (H2.out _ (F1.grow (by repeat (first | exact Grow.refl _ | assumption | refine Grow.alloc ?_ _ | refine Grow.drew ?_ | refine Grow.drewN ?_ _ | refine Grow.trans ?_ (by assumption) | refine Grow.below ?_ (by assumption) (by first | exact Nat.le_refl _ | omega))))).mono ?_
    rintro e w3 ⟨A3, c3, rfl, o3, g3⟩
    have I3 : Ints w3 A3 (Pl.clsL l) := OInts.ints HL9.out o3
    have hsl := fun W h h' => slInts_c A2 A3 c2 c3 (Pl.clsL l) (Pl.clsL l) W h h' (by rw [Pl.clsL_length]; omega) (by rw [Pl.clsL_length]; omega)
    rw [Pl.clsL_length] at hsl
    have HSL := Lib.hid hsl
    clear hsl
    go_wp2_with fail
    refine (HSL.out _ (I2.grow (by repeat (first | exact Grow.refl _ | assumption | refine Grow.alloc ?_ _ | refine Grow.drew ?_ | refine Grow.drewN ?_ _ | refine Grow.trans ?_ (by assumption) | refine Grow.below ?_ (by assumption) (by first | exact Nat.le_refl _ | omega)))) I3).mono ?_
    rintro e w4 ⟨rfl, g4⟩
    go_wp2_with fail
    refine (FactsValid_c _ _ l _ (F1.grow (by repeat (first | exact Grow.refl _ | assumption | refine Grow.alloc ?_ _ | refine Grow.drew ?_ | refine Grow.drewN ?_ _ | refine Grow.trans ?_ (by assumption) | refine Grow.below ?_ (by assumption) (by first | exact Nat.le_refl _ | omega)))) (by omega)).mono ?_
    rintro e w5 ⟨rfl, g5⟩
    rw [HF.out]
    have F5 : Facts w5 A1 l := F1.grow (by repeat (first | exact Grow.refl _ | assumption | refine Grow.alloc ?_ _ | refine Grow.drew ?_ | refine Grow.drewN ?_ _ | refine Grow.trans ?_ (by assumption) | refine Grow.below ?_ (by assumption) (by first | exact Nat.le_refl _ | omega)))
    have I5 : Ints w5 A2 (Pl.clsL l) := I2.grow (by repeat (first | exact Grow.refl _ | assumption | refine Grow.alloc ?_ _ | refine Grow.drew ?_ | refine Grow.drewN ?_ _ | refine Grow.trans ?_ (by assumption) | refine Grow.below ?_ (by assumption) (by first | exact Nat.le_refl _ | omega)))
    have G5 : Grow w w5 := (by repeat (first | exact Grow.refl _ | assumption | refine Grow.alloc ?_ _ | refine Grow.drew ?_ | refine Grow.drewN ?_ _ | refine Grow.trans ?_ (by assumption) | refine Grow.below ?_ (by assumption) (by first | exact Nat.le_refl _ | omega)))
    clear o1 o2 o3 g1 g2 g3 g4 g5 F1 I2 I3 HSL H1 H2 hA hnc
    go_wp2_with fail
    go_loopw [5, 6] (fun i _ wr => ∃ k : Nat, k ≤ 9 ∧ i = .int .i64 k ∧ Grow w5 wr) (fun i _ _ => 9 - (intOf i).toNat)
    case atStart => exact ⟨0, by omega, rfl, Grow.refl _⟩
    case round =>
      obtain ⟨k, hk, rfl, hg⟩ := hrel
      by_cases hlt : k < 9
      · have hkl : k < (Pl.clsL l).length := by rw [← HL9.out]; exact hlt
        have hk8 : (k : Int) ≤ 8 := by omega
        have HC := Lib.hid (show (Pl.clsL l)[k] = ((Pl.cls l k : Nat) : Int) by
          have := Pl.clsL_get l hlt
          rw [List.getElem?_eq_getElem hkl] at this
          injection this)
        have hle := Pl.cls_le l k
        have hcl : Pl.cls l k < (Pl.clsL l).length := by rw [← HL9.out]; omega
        have HCC := Lib.hid (show (Pl.clsL l)[Pl.cls l k] = ((Pl.cls l k : Nat) : Int) by
          have := Pl.clsL_get l (t := Pl.cls l k) (by omega)
          rw [List.getElem?_eq_getElem hcl, Pl.cls_idem] at this
          injection this)
        have HI := Lib.hid (Pl.imp_cls (l := l) HF.out (t := k) (by omega))
        obtain ⟨b, off, rfl, q0⟩ := (I5.grow hg).at_ hkl
        obtain ⟨b', off', hb', q1⟩ := (I5.grow hg).at_ hcl
        injection hb' with hb'
        injection hb' with e1 e2 _
        subst e1 e2
        rw [HC.out] at q0
        rw [HCC.out] at q1
        generalize Pl.cls l k = x at *
        have hx1 : ((x : Nat) : Int) ≤ (k : Int) := by omega
        go_wp2_with fail
        refine (FactsImply_c A1 c1 l ⟨true, (k : Int), (x : Int)⟩ _ (F5.grow hg) (by omega)).mono ?_
        rintro e w6 ⟨rfl, g6⟩
        rw [HI.out]
        go_wp2_with fail
        go_roundw
        case rel => exact ⟨k + 1, by omega, by go_num, (by repeat (first | exact Grow.refl _ | assumption | refine Grow.alloc ?_ _ | refine Grow.drew ?_ | refine Grow.drewN ?_ _ | refine Grow.trans ?_ (by assumption) | refine Grow.below ?_ (by assumption) (by first | exact Nat.le_refl _ | omega)))⟩
        case measure => simp [intOf]; omega
      · have hk9 : k = 9 := by omega
        subst hk9
        rw [show ((9 : Nat) : Int) = 9 from rfl]
        go_wp2_with fail
        obtain ⟨wo, rfl⟩ : ∃ wo : World, wo = wr := ⟨_, rfl⟩
        go_loopw [7] (fun i wr => ∃ k : Nat, k ≤ l.length ∧ i = .int .i64 k ∧ Grow w5 wr) (fun i _ => l.length - (intOf i).toNat)
        case atStart => exact ⟨0, by omega, rfl, hg⟩
        case round =>
          obtain ⟨k, hk, rfl, hg⟩ := hrel
          by_cases hlt : k < l.length
          · obtain ⟨b, off, rfl, q0, q1, q2⟩ := (F5.grow hg).at_ hlt
            obtain ⟨⟨a0, a8⟩, ⟨b0, b8⟩⟩ := (Pl.fv_iff _).1 ((Pl.fsv_iff l).1 HF.out |>.2 l[k] (List.getElem_mem hlt))
            have i0 : (0 : Int) ≤ (k : Int) := by omega
            have i1 : (k : Int) < (l.length : Int) := by omega
            have a9 : l[k].a < 9 := by omega
            have b9 : l[k].b < 9 := by omega
            have hal : l[k].a.toNat < (Pl.clsL l).length := by rw [← HL9.out]; omega
            have hbl : l[k].b.toNat < (Pl.clsL l).length := by rw [← HL9.out]; omega
            obtain ⟨g, o, rfl, r0⟩ := (I5.grow hg).at_ hal
            obtain ⟨g', o', hb', r1⟩ := (I5.grow hg).at_ hbl
            injection hb' with hb'
            injection hb' with e1 e2 _
            subst e1 e2
            cases he : l[k].e with
            | false =>
              rw [he] at q0
              clear he
              go_wp2_with fail
              go_quiet (fail)
              go_wp2
              go_roundw
              case rel => exact ⟨k + 1, by omega, by go_num, (by repeat (first | exact Grow.refl _ | assumption | refine Grow.alloc ?_ _ | refine Grow.drew ?_ | refine Grow.drewN ?_ _ | refine Grow.trans ?_ (by assumption) | refine Grow.below ?_ (by assumption) (by first | exact Nat.le_refl _ | omega)))⟩
              case measure => simp [intOf]; omega
            | true =>
              have HE := Lib.hid (show (Pl.clsL l)[l[k].a.toNat] = (Pl.clsL l)[l[k].b.toNat] by
                have h1 := Pl.clsL_get l (t := l[k].a.toNat) (by omega)
                have h2 := Pl.clsL_get l (t := l[k].b.toNat) (by omega)
                rw [List.getElem?_eq_getElem hal] at h1
                rw [List.getElem?_eq_getElem hbl] at h2
                injection h1 with h1
                injection h2 with h2
                rw [h1, h2, Pl.cls_eq (List.getElem_mem hlt) he])
              rw [he] at q0
              clear he
              rw [HE.out] at r0
              generalize (Pl.clsL l)[l[k].b.toNat] = y at *
              have hyy : (y != y) = false := by simp
              go_wp2_with fail
              go_quiet (fail)
              go_wp2
              go_roundw
              case rel => exact ⟨k + 1, by omega, by go_num, (by repeat (first | exact Grow.refl _ | assumption | refine Grow.alloc ?_ _ | refine Grow.drew ?_ | refine Grow.drewN ?_ _ | refine Grow.trans ?_ (by assumption) | refine Grow.below ?_ (by assumption) (by first | exact Nat.le_refl _ | omega)))⟩
              case measure => simp [intOf]; omega
          · go_wp2
            go_ret
            exact ⟨rfl, (by repeat (first | exact Grow.refl _ | assumption | refine Grow.alloc ?_ _ | refine Grow.drew ?_ | refine Grow.drewN ?_ _ | refine Grow.trans ?_ (by assumption) | refine Grow.below ?_ (by assumption) (by first | exact Nat.le_refl _ | omega)))⟩

set_option maxRecDepth 100000 in
theorem lifted (os : Os) (started : os.Started) (H : Type) (enc : TypeId × Value → H) :
    ReturnsInHanded {} Try.checked os 12 .any (Rows.fnTermClassesSpec.pre6 enc Try.prog Try.f12 Rows.fnTermClassesRow.domain false) (Rows.fnTermClassesSpec.post enc Try.prog Try.f12 false true false false) := by
  refine returnsInHanded_of_change (C := Try.checked) own_knob started (by kernel_rfl) Try.func12
    (ChangeSpec.witness6 (enc := enc) (C := Try.checked) false ⟨#[], #[.slice none 0 0], []⟩ 8 (by kernel_rfl) (by kernel_rfl) (by kernel_rfl) (by kernel_rfl)) ?_
  intro W base args ds gs before hval0 hW hcnd _
  have hval : ∀ (j : Nat) t v, Try.f12.params[j]? = some t → args[j]? = some v → Value.okWide Try.prog W .any base t v := hval0
  have hW' := hW
  obtain ⟨p, q, hA0, hV, rfl, hfz, hnd⟩ := hW
  have hA : DataW.TrodAll enc Try.prog W 0 (fun _ => true) true Try.f12.params.toList args.toList ds p := hA0
  rw [Try.params12] at hA hval
  obtain ⟨v0, vs0, d0, ds0, p0, q0, hargs, rfl, rfl, h0, r0⟩ := trodAll_cons hA
  obtain ⟨rfl, rfl, rfl⟩ := trodAll_nil r0
  obtain rfl : args = #[v0] := by cases args; simp_all
  obtain ⟨rfl, rfl⟩ := trodVars_none hV
  have k0 := h0
  have lt0 : ∀ x ∈ p0, x.block < W.heap.size := by obtain ⟨m, hm⟩ := k0; exact DataW.trod_lt m _ _ _ hm
  obtain ⟨a0, len0, cap0, rfl⟩ := okWide_slice Try.underlying43 (hval 0 43 v0 rfl rfl)
  obtain ⟨hb0, w0, hc0⟩ : len0 ≤ 9223372036854775807 ∧ Bytes W a0 len0 ∧ len0 ≤ cap0 := by
    obtain ⟨fuel, hf⟩ := h0
    exact open_bytesL (by simpa [Value.cells] using hf)
  clear hA0 hval0
  refine (walk a0 cap0 len0 W w0 hb0 hc0).mono fun e W' ⟨he, bel⟩ => ?_
  subst he
  exact ⟨_, rfl, _, _, _, [], _, [], hW', trodAll_mk1 (shut_bool Try.underlying4 _), (trodAll_cons_mk (Below.trod laid_out (by kernel_rfl) (of_decide_eq_true (by kernel_rfl)) k0 bel lt0) trodAll_mk0), rfl, bel.frame _, fun h => by cases h⟩

theorem over : Rows.fnTermClassesRow.holds Try.pinned (OpenSpec.ofChange Rows.fnTermClassesSpec) :=
  OpenClaim.holds_of_wide 12 Try.f12 rfl rfl rfl rfl rfl rfl rfl ⟨rfl, rfl, rfl, rfl, rfl⟩ rfl rfl rfl rfl rfl (by kernel_rfl) Try.func12 (by kernel_rfl)
    (of_decide_eq_true (by kernel_rfl)) (by unfold Func.isWrapper; first | (rw [if_pos (by decide +kernel)]; kernel_rfl) | (rw [if_neg (by decide +kernel)]; exact ⟨rfl, rfl⟩))
    (fun os started H enc _ => lifted os started H enc)

/-- The statement. -/
theorem proved : Rows.FnTermClassesSaid := over
#print axioms proved

end Go.Proofs.Ytcpkmnlhenbnlaa.lawFnTermClasses
