/- FnExactParseState: for every text the program's ParseState answers as the reference does. No conditions. -/
import Derived.Test.YtifdefkkofngoaaDoorStM
import Derived.Test.YtifdefkkofngoaaDoorQp
import Derived.Test.YtifdefkkofngoaaDoorQst
import Derived.Test.YtifdefkkofngoaaDoorPlainAll
import Derived.Test.YtifdefkkofngoaaDoorRowL
namespace Go.Proofs.YtifdefkkofngoaaDoor.lawFnExactParseState
open Go.ChangeShapes Go.WideShapes Go.ChangeAt Go.RowKit Go.Joins Go.Deep
open Go.ChangeMaps (open_string shut_string)
set_option linter.unusedVariables false
set_option linter.unusedSimpArgs false

set_option maxRecDepth 100000 in
set_option maxHeartbeats 6400000 in
theorem walkL (s : List UInt8) (w : World) (hs : s.length ≤ 9223372036854775807) (hT : TabN w) (hM : MaxL w) : Calls Tryd.prog 4 #[.string (Pl.str s)] w fun e w' => e = .returned (.bool true) ∧ Grow w w' := by
  have hz := Pl.str_size s
  by_cases h20 : 1048576 < (s.length : Int)
  · go_enter Tryd.func4, Tryd.ntmps4
    go_wp2_with fail
    go_ret
    exact ⟨rfl, (by repeat (first | exact Grow.refl _ | assumption | refine Grow.alloc ?_ _ | refine Grow.drew ?_ | refine Grow.drewN ?_ _ | refine Grow.trans ?_ (by assumption) | refine Grow.below ?_ (by assumption) (by first | exact Nat.le_refl _ | omega)))⟩
  obtain ⟨r, hr⟩ : ∃ r, r = Pl.pS s := ⟨_, rfl⟩
  have hl := Pl.pS_lens s
  rw [← hr] at hl
  have CS := Lib.hid (show ∀ W, Calls Tryd.prog 14 #[.string (Pl.str s)] W (RSt W r) from fun W => by rw [hr]; exact sParseState_c s W (by omega))
  have CI := Lib.hid (show ∀ W, TabN W → MaxL W → Calls Tryd.prog 15 #[.string (Pl.str s)] W (RSt W r) from fun W k k2 => by rw [hr]; exact ParseState_c s W (by omega) k k2)
  obtain ⟨⟨rv, rh⟩, rb⟩ := r
  have hl1 : rv.length ≤ 12 := Nat.le_trans hl.1 (by omega)
  have hl2 : rh.length ≤ 12 := Nat.le_trans hl.2 (by omega)
  clear hr hl
  have hT0 := hT
  have hM0 := hM
  go_enter Tryd.func4, Tryd.ntmps4
  go_wp2_with fail
  refine (CS.out _).mono ?_
  rintro e w2 ⟨A2, B2, c2, d2, rfl, o2, g2⟩
  have q : Grow w w2 := (by repeat (first | exact Grow.refl _ | assumption | refine Grow.alloc ?_ _ | refine Grow.drew ?_ | refine Grow.drewN ?_ _ | refine Grow.trans ?_ (by assumption) | refine Grow.below ?_ (by assumption) (by first | exact Nat.le_refl _ | omega)))
  have zw2 := q.le
  replace hT := hT.grow q
  replace hM := hM.grow q
  have G := q
  clear q g2
  have b2 := o2.bdv
  have b2h := o2.bdh
  go_wp2_with fail
  refine (CI.out _ (hT.grow (by repeat (first | exact Grow.refl _ | assumption | refine Grow.alloc ?_ _ | refine Grow.drew ?_ | refine Grow.drewN ?_ _ | refine Grow.trans ?_ (by assumption) | refine Grow.below ?_ (by assumption) (by first | exact Nat.le_refl _ | omega)))) (hM.grow (by repeat (first | exact Grow.refl _ | assumption | refine Grow.alloc ?_ _ | refine Grow.drew ?_ | refine Grow.drewN ?_ _ | refine Grow.trans ?_ (by assumption) | refine Grow.below ?_ (by assumption) (by first | exact Nat.le_refl _ | omega))))).mono ?_
  rintro e w4 ⟨A4, B4, c4, d4, rfl, o4, g4⟩
  have q : Grow w2 w4 := (by repeat (first | exact Grow.refl _ | assumption | refine Grow.alloc ?_ _ | refine Grow.drew ?_ | refine Grow.drewN ?_ _ | refine Grow.trans ?_ (by assumption) | refine Grow.below ?_ (by assumption) (by first | exact Nat.le_refl _ | omega)))
  have yw := (Box2.new w2 27 (.slice A2 rv.length c2) (.slice B2 rh.length d2)).grow g4
  have zw4 := yw.lt
  replace hT := hT.grow q
  replace hM := hM.grow q
  replace o2 := o2.grow q
  replace G := G.trans q
  clear q g4
  have b4 := o4.bdv
  have b4h := o4.bdh
  simp only [World.size_alloc] at b4 b4h
  obtain ⟨yw0, yw1, _, _⟩ := yw.facts
  have yw2 := yw.lt
  go_wp2_with fail
  refine (eqState_c A4 B4 A2 B2 c4 d4 c2 d2 ⟨rv, rh⟩ ⟨rv, rh⟩ _ (o4.st.grow (by repeat (first | exact Grow.refl _ | assumption | refine Grow.alloc ?_ _ | refine Grow.drew ?_ | refine Grow.drewN ?_ _ | refine Grow.trans ?_ (by assumption) | refine Grow.below ?_ (by assumption) (by first | exact Nat.le_refl _ | omega)))) (o2.st.grow (by repeat (first | exact Grow.refl _ | assumption | refine Grow.alloc ?_ _ | refine Grow.drew ?_ | refine Grow.drewN ?_ _ | refine Grow.trans ?_ (by assumption) | refine Grow.below ?_ (by assumption) (by first | exact Nat.le_refl _ | omega)))) (by show rv.length ≤ _; omega) (by show rh.length ≤ _; omega) (by show rv.length ≤ _; omega) (by show rh.length ≤ _; omega)).mono ?_
  rintro e w5 ⟨rfl, g5⟩
  clear yw0 yw1 yw2
  have q : Grow w4 w5 := (by repeat (first | exact Grow.refl _ | assumption | refine Grow.alloc ?_ _ | refine Grow.drew ?_ | refine Grow.drewN ?_ _ | refine Grow.trans ?_ (by assumption) | refine Grow.below ?_ (by assumption) (by first | exact Nat.le_refl _ | omega)))
  have yg := (Box2.new w4 27 (.slice A4 rv.length c4) (.slice B4 rh.length d4)).grow g5
  have zw5 := yg.lt
  replace yw := yw.grow q
  replace hT := hT.grow q
  replace hM := hM.grow q
  replace o2 := o2.grow q
  replace o4 := o4.grow q
  replace G := G.trans q
  clear q g5
  obtain ⟨yg0, yg1, _, _⟩ := yg.facts
  have yg2 := yg.lt
  go_wp2_with fail
  refine (markState_m A4 B4 c4 d4 _ ⟨rv, rh⟩ 1 _ o4 (by show rv.length ≤ _; omega) (by show rh.length ≤ _; omega) (by omega)).mono ?_
  rintro e w10 ⟨rfl, ⟨k4, k5⟩, mw10⟩
  clear yg0 yg1 yg2
  have zw10 := mw10.size
  replace yw := mw10.box yw b4 b4h (by omega) (by omega)
  replace yg := mw10.box yg b4 b4h (by omega) (by omega)
  replace o2 := mw10.ost o2 b2 b2h b4 b4h (by omega) (by omega)
  replace hT := hT0.grow (mw10.grow G b4 b4h (by omega) (by omega))
  replace hM := hM0.grow (mw10.grow G b4 b4h (by omega) (by omega))
  replace G := mw10.grow G b4 b4h (by omega) (by omega)
  clear mw10
  replace k4 : Ints w10 A4 (markI 1 rv.length) := k4
  replace k5 : Ints w10 B4 (markI (1 + rv.length) rh.length) := k5
  obtain ⟨yg0, yg1, _, _⟩ := yg.facts
  have yg2 := yg.lt
  go_wp2_with fail
  refine (heldState_c A4 B4 c4 d4 1 rv.length rh.length _ (k4.grow (by repeat (first | exact Grow.refl _ | assumption | refine Grow.alloc ?_ _ | refine Grow.drew ?_ | refine Grow.drewN ?_ _ | refine Grow.trans ?_ (by assumption) | refine Grow.below ?_ (by assumption) (by first | exact Nat.le_refl _ | omega)))) (k5.grow (by repeat (first | exact Grow.refl _ | assumption | refine Grow.alloc ?_ _ | refine Grow.drew ?_ | refine Grow.drewN ?_ _ | refine Grow.trans ?_ (by assumption) | refine Grow.below ?_ (by assumption) (by first | exact Nat.le_refl _ | omega)))) (by omega) (by omega) (by omega)).mono ?_
  rintro e w11 ⟨rfl, g11⟩
  clear yg0 yg1 yg2
  have q : Grow w10 w11 := (by repeat (first | exact Grow.refl _ | assumption | refine Grow.alloc ?_ _ | refine Grow.drew ?_ | refine Grow.drewN ?_ _ | refine Grow.trans ?_ (by assumption) | refine Grow.below ?_ (by assumption) (by first | exact Nat.le_refl _ | omega)))
  have zw11 := q.le
  replace yw := yw.grow q
  replace yg := yg.grow q
  replace hT := hT.grow q
  replace hM := hM.grow q
  replace o2 := o2.grow q
  replace k4 := k4.grow q
  replace k5 := k5.grow q
  replace G := G.trans q
  clear q g11
  go_wp2_with fail
  refine (CI.out _ (hT.grow (by repeat (first | exact Grow.refl _ | assumption | refine Grow.alloc ?_ _ | refine Grow.drew ?_ | refine Grow.drewN ?_ _ | refine Grow.trans ?_ (by assumption) | refine Grow.below ?_ (by assumption) (by first | exact Nat.le_refl _ | omega)))) (hM.grow (by repeat (first | exact Grow.refl _ | assumption | refine Grow.alloc ?_ _ | refine Grow.drew ?_ | refine Grow.drewN ?_ _ | refine Grow.trans ?_ (by assumption) | refine Grow.below ?_ (by assumption) (by first | exact Nat.le_refl _ | omega))))).mono ?_
  rintro e w13 ⟨A13, B13, c13, d13, rfl, o13, g13⟩
  have q : Grow w11 w13 := (by repeat (first | exact Grow.refl _ | assumption | refine Grow.alloc ?_ _ | refine Grow.drew ?_ | refine Grow.drewN ?_ _ | refine Grow.trans ?_ (by assumption) | refine Grow.below ?_ (by assumption) (by first | exact Nat.le_refl _ | omega)))
  have zw13 := q.le
  replace yw := yw.grow q
  replace yg := yg.grow q
  replace hT := hT.grow q
  replace hM := hM.grow q
  replace o2 := o2.grow q
  replace k4 := k4.grow q
  replace k5 := k5.grow q
  replace G := G.trans q
  clear q g13
  obtain ⟨yw0, yw1, _, _⟩ := yw.facts
  have yw2 := yw.lt
  go_wp2_with fail
  refine (eqState_c A13 B13 A2 B2 c13 d13 c2 d2 ⟨rv, rh⟩ ⟨rv, rh⟩ _ (o13.st.grow (by repeat (first | exact Grow.refl _ | assumption | refine Grow.alloc ?_ _ | refine Grow.drew ?_ | refine Grow.drewN ?_ _ | refine Grow.trans ?_ (by assumption) | refine Grow.below ?_ (by assumption) (by first | exact Nat.le_refl _ | omega)))) (o2.st.grow (by repeat (first | exact Grow.refl _ | assumption | refine Grow.alloc ?_ _ | refine Grow.drew ?_ | refine Grow.drewN ?_ _ | refine Grow.trans ?_ (by assumption) | refine Grow.below ?_ (by assumption) (by first | exact Nat.le_refl _ | omega)))) (by show rv.length ≤ _; omega) (by show rh.length ≤ _; omega) (by show rv.length ≤ _; omega) (by show rh.length ≤ _; omega)).mono ?_
  rintro e w14 ⟨rfl, g14⟩
  clear yw0 yw1 yw2
  have q : Grow w13 w14 := (by repeat (first | exact Grow.refl _ | assumption | refine Grow.alloc ?_ _ | refine Grow.drew ?_ | refine Grow.drewN ?_ _ | refine Grow.trans ?_ (by assumption) | refine Grow.below ?_ (by assumption) (by first | exact Nat.le_refl _ | omega)))
  have yh := (Box2.new w13 27 (.slice A13 rv.length c13) (.slice B13 rh.length d13)).grow g14
  have zw14 := yh.lt
  replace yw := yw.grow q
  replace yg := yg.grow q
  replace hT := hT.grow q
  replace hM := hM.grow q
  replace o2 := o2.grow q
  replace k4 := k4.grow q
  replace k5 := k5.grow q
  replace G := G.trans q
  clear q g14
  obtain ⟨yg0, yg1, _, _⟩ := yg.facts
  have yg2 := yg.lt
  go_wp2_with fail
  refine (heldState_c A4 B4 c4 d4 1 rv.length rh.length _ (k4.grow (by repeat (first | exact Grow.refl _ | assumption | refine Grow.alloc ?_ _ | refine Grow.drew ?_ | refine Grow.drewN ?_ _ | refine Grow.trans ?_ (by assumption) | refine Grow.below ?_ (by assumption) (by first | exact Nat.le_refl _ | omega)))) (k5.grow (by repeat (first | exact Grow.refl _ | assumption | refine Grow.alloc ?_ _ | refine Grow.drew ?_ | refine Grow.drewN ?_ _ | refine Grow.trans ?_ (by assumption) | refine Grow.below ?_ (by assumption) (by first | exact Nat.le_refl _ | omega)))) (by omega) (by omega) (by omega)).mono ?_
  rintro e w15 ⟨rfl, g15⟩
  clear yg0 yg1 yg2
  have q : Grow w14 w15 := (by repeat (first | exact Grow.refl _ | assumption | refine Grow.alloc ?_ _ | refine Grow.drew ?_ | refine Grow.drewN ?_ _ | refine Grow.trans ?_ (by assumption) | refine Grow.below ?_ (by assumption) (by first | exact Nat.le_refl _ | omega)))
  have zw15 := q.le
  replace yw := yw.grow q
  replace yg := yg.grow q
  replace yh := yh.grow q
  replace hT := hT.grow q
  replace hM := hM.grow q
  replace o2 := o2.grow q
  replace k4 := k4.grow q
  replace k5 := k5.grow q
  replace G := G.trans q
  clear q g15
  go_wp2_with fail
  go_ret
  exact ⟨rfl, G⟩

theorem walk (s : ByteArray) (w : World) (hs : s.size ≤ maxLen) (hT : TabN w) (hM : MaxL w) : Calls Tryd.prog 4 #[.string s] w fun e w' => e = .returned (.bool true) ∧ Grow w w' := by
  have e : s.data.toList.length = s.size := by rw [Array.length_toList]; rfl
  have hs2 : s.data.toList.length ≤ 9223372036854775807 := by unfold maxLen at hs; omega
  have h := walkL s.data.toList w hs2 hT hM
  rw [Pl.data_str] at h
  exact h

set_option maxRecDepth 100000 in
theorem contract (H : Type) (enc : TypeId × Value → H) (W : World) (base : Nat) (args : Array Value) (ds gs : List (DataW H)) (before : List MemPlace)
    (hval0 : ∀ (j : Nat) t v, Tryd.f4.params[j]? = some t → args[j]? = some v → Value.okWide Tryd.prog W .any base t v)
    (hW : DataW.Whole enc Tryd.prog Tryd.f4.params.toList Rows.fnExactParseStateSpec.vars false W args.toList ds gs before) (hSh : W.ShapedOpen Tryd.prog) (hL : laidMetH Tryd.prog Rows.fnExactParseStateRow.laid W) :
    Calls Tryd.prog 4 args W fun e W' => ∃ v, e = .returned v ∧ Rows.fnExactParseStateSpec.post enc Tryd.prog Tryd.f4 false true false false W args v W' := by
  have hval : ∀ (j : Nat) t v, Tryd.f4.params[j]? = some t → args[j]? = some v → Value.okWide Tryd.prog W .any base t v := hval0
  have hW' := hW
  obtain ⟨p, q, hA0, hV, rfl, hfz, hnd⟩ := hW
  have hA : DataW.TrodAll enc Tryd.prog W 0 (fun _ => true) true Tryd.f4.params.toList args.toList ds p := hA0
  rw [Tryd.params4] at hA hval
  obtain ⟨v0, vs0, d0, ds0, p0, q0, hargs, rfl, rfl, h0, r0⟩ := trodAll_cons hA
  obtain ⟨rfl, rfl, rfl⟩ := trodAll_nil r0
  obtain rfl : args = #[v0] := by cases args; simp_all
  have hV2 := hV
  obtain ⟨dv, rfl⟩ : ∃ dv, gs = [dv] := by obtain ⟨_, _, _, _, d, _, e, _⟩ := trodVars_one hV; exact ⟨d, e⟩
  have k0 := h0
  have lt0 : ∀ x ∈ p0, x.block < W.heap.size := by obtain ⟨m, hm⟩ := k0; exact DataW.trod_lt m _ _ _ hm
  obtain ⟨s0, rfl, rfl, rfl, hs0⟩ := open_string Tryd.underlying9 (hval 0 9 v0 rfl rfl) h0
  clear hA0 hval0
  refine (walk s0 W hs0 (names_metL (show laidMet Tryd.prog Rows.fnExactParseStateRow.laid W from hL) (by repeat (first | exact List.mem_cons_self | refine List.mem_cons_of_mem _ ?_))) (maxl_of hSh)).mono fun e W' ⟨he, bel⟩ => ?_
  subst he
  exact ⟨_, rfl, _, _, _, [], _, q, hW', trodAll_mk1 (shut_bool Tryd.underlying4 _), (trodAll_cons_mk (Below.trod laid_out (by kernel_rfl) (of_decide_eq_true (by kernel_rfl)) k0 bel lt0) trodAll_mk0), Below.trodVars laid_out bel (by kernel_rfl) hV2, bel.frame _, fun h => by cases h⟩

set_option maxRecDepth 100000 in
theorem lifted (os : Os) (started : os.Started) (H : Type) (enc : TypeId × Value → H) (F : Stop.Interp) :
    ReturnsInHanded {} Tryd.checked os 4 .any ((OpenSpec.ofChange Rows.fnExactParseStateSpec).preRow enc Tryd.prog Tryd.f4 Rows.fnExactParseStateRow.domain false Rows.fnExactParseStateRow.laid) (((OpenSpec.ofChange Rows.fnExactParseStateSpec).at F).post enc Tryd.prog Tryd.f4 false true false false) := by
  obtain ⟨x, hx⟩ := Option.isSome_iff_exists.1 (show (DataW.whole enc Tryd.prog ((World.laidAll Tryd.prog os Rows.fnExactParseStateRow.laid).forCall (fun _ _ => 0) ⟨#[], #[.string ByteArray.empty], []⟩).memory Tryd.f4.params.toList Rows.fnExactParseStateSpec.vars false (#[.string ByteArray.empty] : Array Value).toList 8).isSome = true by kernel_rfl)
  refine returnsInHanded_of_row (C := Tryd.checked) (s := OpenSpec.ofChange Rows.fnExactParseStateSpec) own_knob started (by kernel_rfl) Tryd.func4
    (witness_row_at (enc := enc) (C := Tryd.checked) false (World.laidAll Tryd.prog os Rows.fnExactParseStateRow.laid) #[.string ByteArray.empty] (World.laidAll_os _ _ _) (by kernel_rfl) (by kernel_rfl) (by kernel_rfl)
      (OpenSpec.preRow_of_cond 8 hx rfl (fun k hk => by cases hk) (by kernel_rfl) (show laidMet Tryd.prog Rows.fnExactParseStateRow.laid _ from laidMet_laidAll _ (by kernel_rfl) (by kernel_rfl)))) ?_
  intro W base args ds gs before hval hW _ _ _ hL hSh _
  exact contract H enc W base args ds gs before hval hW hSh hL

theorem said : Rows.FnExactParseStateSaid :=
  OpenClaim.holds_of_cond 4 Tryd.f4 rfl rfl rfl rfl rfl rfl rfl ⟨rfl, rfl, rfl, rfl, rfl⟩ rfl rfl rfl rfl rfl (by kernel_rfl) Tryd.func4 (by kernel_rfl)
    (of_decide_eq_true (by kernel_rfl)) (by unfold Func.isWrapper; first | (rw [if_pos (by decide +kernel)]; kernel_rfl) | (rw [if_neg (by decide +kernel)]; exact ⟨rfl, rfl⟩))
    (fun os started H enc _ F => by rw [OpenClaim.pre_eq_preRow]; exact lifted os started H enc F)

theorem plain (f : FuncId) (fn : Func) (hf : Tryd.pinned.checked.prog.funcNamed "loop.example/separation/laws.FnExactParseState" = some f) (hfn : Tryd.pinned.checked.prog.funcs[f]? = some fn) :
    false = Tryd.pinned.checked.prog.looks [] ∧ ∀ (j : Nat) t, fn.params[j]? = some t → Tryd.pinned.checked.prog.wantsStandIn t = false := by
  obtain rfl : f = 4 := Option.some.inj ((show Tryd.prog.funcNamed "loop.example/separation/laws.FnExactParseState" = some 4 by kernel_rfl).symm.trans hf) |>.symm
  obtain rfl : fn = Tryd.f4 := (Option.some.inj (Tryd.func4.symm.trans hfn)).symm
  refine ⟨by kernel_rfl, fun j t ht => ?_⟩
  rw [Tryd.params4] at ht
  obtain rfl : t = 9 := by simpa using Array.mem_of_getElem? ht
  exact (show Tryd.prog.wantsStandIn 9 = false by kernel_rfl)

/-- The card. -/
theorem proved : Rows.FnExactParseStateCardSaid :=
  Claim7.holds_tied_plain_at .later [] _ _ _ _ said (fun _ h => by cases h) (by kernel_rfl) (fun _ h => by cases h) fnExactParseState_row_tie rfl ⟨rfl, rfl⟩ (by kernel_rfl) rfl plain (by kernel_rfl)
#print axioms proved

end Go.Proofs.YtifdefkkofngoaaDoor.lawFnExactParseState
