/- FnExactFactValid: for every fact the program's FactValid answers as the reference does. No conditions. -/
import Derived.Test.YtdajnpfeihjcmaaValid
import Derived.Test.YtdajnpfeihjcmaaRowAid
namespace Go.Proofs.Ytdajnpfeihjcmaa.lawFnExactFactValid
open Go.ChangeShapes Go.WideShapes Go.ChangeAt Go.RowKit Go.Joins Go.Deep
open Go.ChangeMaps (open_string shut_string)
set_option linter.unusedVariables false

theorem walk (f : Pl.Fct) (w : World) (hf : True) : Calls Try.prog 4 #[fval f] w fun e w' => e = .returned (.bool true) ∧ Grow w w' := by
  obtain ⟨x, a, b⟩ := f
  go_enter Try.func4, Try.ntmps4
  go_wp2_with fail
  refine (toFact_c ⟨x, a, b⟩ _).mono ?_
  rintro e w1 ⟨rfl, g1⟩
  obtain ⟨q0, q1, q2⟩ := box3 g1
  go_wp2_with fail
  refine (sFactValid_c ⟨x, a, b⟩ _).mono ?_
  rintro e w2 ⟨rfl, g2⟩
  have r0 := g2.cell q0
  have r1 := g2.cell q1
  have r2 := g2.cell q2
  go_wp2_with fail
  refine (toFact_c ⟨x, a, b⟩ _).mono ?_
  rintro e w3 ⟨rfl, g3⟩
  go_wp2_with fail
  refine (FactValid_c ⟨x, a, b⟩ _).mono ?_
  rintro e w4 ⟨rfl, g4⟩
  go_wp2_with fail
  go_ret
  exact ⟨rfl, (by repeat (first | exact Grow.refl _ | assumption | refine Grow.alloc ?_ _ | refine Grow.drew ?_ | refine Grow.drewN ?_ _ | refine Grow.trans ?_ (by assumption) | refine Grow.below ?_ (by assumption) (by first | exact Nat.le_refl _ | omega)))⟩

set_option maxRecDepth 100000 in
theorem lifted (os : Os) (started : os.Started) (H : Type) (enc : TypeId × Value → H) :
    ReturnsInHanded {} Try.checked os 4 .any (Rows.fnExactFactValidSpec.pre6 enc Try.prog Try.f4 Rows.fnExactFactValidRow.domain false) (Rows.fnExactFactValidSpec.post enc Try.prog Try.f4 false true false false) := by
  refine returnsInHanded_of_change (C := Try.checked) own_knob started (by kernel_rfl) Try.func4
    (ChangeSpec.witness6 (enc := enc) (C := Try.checked) false ⟨#[], #[.agg #[.bool false, .int .i64 0, .int .i64 0]], []⟩ 8 (by kernel_rfl) (by kernel_rfl) (by kernel_rfl) (by kernel_rfl)) ?_
  intro W base args ds gs before hval0 hW hcnd _
  have hval : ∀ (j : Nat) t v, Try.f4.params[j]? = some t → args[j]? = some v → Value.okWide Try.prog W .any base t v := hval0
  have hW' := hW
  obtain ⟨p, q, hA0, hV, rfl, hfz, hnd⟩ := hW
  have hA : DataW.TrodAll enc Try.prog W 0 (fun _ => true) true Try.f4.params.toList args.toList ds p := hA0
  rw [Try.params4] at hA hval
  obtain ⟨v0, vs0, d0, ds0, p0, q0, hargs, rfl, rfl, h0, r0⟩ := trodAll_cons hA
  obtain ⟨rfl, rfl, rfl⟩ := trodAll_nil r0
  obtain rfl : args = #[v0] := by cases args; simp_all
  obtain ⟨rfl, rfl⟩ := trodVars_none hV
  have k0 := h0
  have lt0 : ∀ x ∈ p0, x.block < W.heap.size := by obtain ⟨m, hm⟩ := k0; exact DataW.trod_lt m _ _ _ hm
  obtain ⟨f0, rfl, hb0⟩ := open_factV (hval 0 24 v0 rfl rfl) h0
  clear hA0 hval0
  refine (walk f0 W hb0).mono fun e W' ⟨he, bel⟩ => ?_
  subst he
  exact ⟨_, rfl, _, _, _, [], _, [], hW', trodAll_mk1 (shut_bool Try.underlying4 _), (trodAll_cons_mk (Below.trod laid_out (by kernel_rfl) (of_decide_eq_true (by kernel_rfl)) k0 bel lt0) trodAll_mk0), rfl, bel.frame _, fun h => by cases h⟩

theorem over : Rows.fnExactFactValidRow.holds Try.pinned (OpenSpec.ofChange Rows.fnExactFactValidSpec) :=
  OpenClaim.holds_of_wide 4 Try.f4 rfl rfl rfl rfl rfl rfl rfl ⟨rfl, rfl, rfl, rfl, rfl⟩ rfl rfl rfl rfl rfl (by kernel_rfl) Try.func4 (by kernel_rfl)
    (of_decide_eq_true (by kernel_rfl)) (by unfold Func.isWrapper; first | (rw [if_pos (by decide +kernel)]; kernel_rfl) | (rw [if_neg (by decide +kernel)]; exact ⟨rfl, rfl⟩))
    (fun os started H enc _ => lifted os started H enc)

/-- The statement. -/
theorem proved : Rows.FnExactFactValidSaid := over
#print axioms proved

end Go.Proofs.Ytdajnpfeihjcmaa.lawFnExactFactValid
