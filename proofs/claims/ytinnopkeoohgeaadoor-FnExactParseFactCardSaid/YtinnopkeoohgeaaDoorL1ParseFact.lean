/- FnExactParseFact: for every text the program's ParseFact answers as the reference does. No conditions. -/
import Derived.Test.YtinnopkeoohgeaaDoorPg
import Derived.Test.YtinnopkeoohgeaaDoorRowT
namespace Go.Proofs.YtinnopkeoohgeaaDoor.lawFnExactParseFact
open Go.ChangeShapes Go.WideShapes Go.ChangeAt Go.RowKit Go.Joins Go.Deep
open Go.ChangeMaps (open_string shut_string)
set_option linter.unusedVariables false

theorem walkL (s : List UInt8) (w : World) (hs : s.length ≤ 9223372036854775807) (hT : TabN w) (hM : MaxL w) : Calls Tryd.prog 3 #[.string (Pl.str s)] w fun e w' => e = .returned (.bool true) ∧ Grow w w' := by
  have hz := Pl.str_size s
  by_cases h20 : 1048576 < (s.length : Int)
  · go_enter Tryd.func3, Tryd.ntmps3
    go_wp2_with fail
    go_ret
    exact ⟨rfl, (by repeat (first | exact Grow.refl _ | assumption | refine Grow.alloc ?_ _ | refine Grow.drew ?_ | refine Grow.drewN ?_ _ | refine Grow.trans ?_ (by assumption) | refine Grow.below ?_ (by assumption) (by first | exact Nat.le_refl _ | omega)))⟩
  · obtain ⟨⟨f, b⟩, hr⟩ : ∃ r, r = Pl.pF s := ⟨_, rfl⟩
    have CS := Lib.hid (show ∀ W, Calls Tryd.prog 13 #[.string (Pl.str s)] W fun e w' => e = .returned (.tuple #[fval f, .bool b]) ∧ Grow W w' from fun W => by have := sParseFact_c s W (by omega); rw [← hr] at this; exact this)
    have CI := Lib.hid (show ∀ W, TabN W → MaxL W → Calls Tryd.prog 14 #[.string (Pl.str s)] W fun e w' => e = .returned (.tuple #[fval f, .bool b]) ∧ Grow W w' from fun W k k' => by have := ParseFact_c s W (by omega) k k'; rw [← hr] at this; exact this)
    have CE := Lib.hid (show ∀ W, Calls Tryd.prog 15 #[fval f, fval f] W fun e w' => e = .returned (.bool true) ∧ Grow W w' from fun W => by have := eqFact_c f f W; rw [decide_eq_true rfl] at this; exact this)
    clear hr
    go_enter Tryd.func3, Tryd.ntmps3
    go_wp2_with fail
    refine (CS.out _).mono ?_
    rintro e w1 ⟨rfl, g1⟩
    have y3 := Box3.new w1 23 (.bool f.e) (.int .i64 f.a) (.int .i64 f.b)
    go_wp2_with fail
    have q1 : Grow w (w1.alloc (.cells #[.bool f.e, .int .i64 f.a, .int .i64 f.b] 23)) := (by repeat (first | exact Grow.refl _ | assumption | refine Grow.alloc ?_ _ | refine Grow.drew ?_ | refine Grow.drewN ?_ _ | refine Grow.trans ?_ (by assumption) | refine Grow.below ?_ (by assumption) (by first | exact Nat.le_refl _ | omega)))
    generalize w1.alloc (.cells #[.bool f.e, .int .i64 f.a, .int .i64 f.b] 23) = w2 at *
    refine (CI.out _ (hT.grow q1) (hM.grow q1)).mono ?_
    rintro e w3 ⟨rfl, g3⟩
    have y5 := Box3.new w3 23 (.bool f.e) (.int .i64 f.a) (.int .i64 f.b)
    have q3 : Grow w3 (w3.alloc (.cells #[.bool f.e, .int .i64 f.a, .int .i64 f.b] 23)) := (by repeat (first | exact Grow.refl _ | assumption | refine Grow.alloc ?_ _ | refine Grow.drew ?_ | refine Grow.drewN ?_ _ | refine Grow.trans ?_ (by assumption) | refine Grow.below ?_ (by assumption) (by first | exact Nat.le_refl _ | omega)))
    replace y3 := y3.grow (g3.trans q3)
    have q4 := q1.trans (g3.trans q3)
    clear q1 q3 g3 g1
    obtain ⟨r0, r1, r2⟩ := y3.facts
    obtain ⟨p0, p1, p2⟩ := y5.facts
    go_wp2_with fail
    refine (CE.out _).mono ?_
    rintro e w4 ⟨rfl, g4⟩
    go_wp2_with fail
    go_ret
    exact ⟨rfl, q4.trans g4⟩

theorem walk (s : ByteArray) (w : World) (hs : s.size ≤ maxLen) (hT : TabN w) (hM : MaxL w) : Calls Tryd.prog 3 #[.string s] w fun e w' => e = .returned (.bool true) ∧ Grow w w' := by
  have e : s.data.toList.length = s.size := by rw [Array.length_toList]; rfl
  have hs2 : s.data.toList.length ≤ 9223372036854775807 := by unfold maxLen at hs; omega
  have h := walkL s.data.toList w hs2 hT hM
  rw [Pl.data_str] at h
  exact h

set_option maxRecDepth 100000 in
theorem contract (H : Type) (enc : TypeId × Value → H) (W : World) (base : Nat) (args : Array Value) (ds gs : List (DataW H)) (before : List MemPlace)
    (hval0 : ∀ (j : Nat) t v, Tryd.f3.params[j]? = some t → args[j]? = some v → Value.okWide Tryd.prog W .any base t v)
    (hW : DataW.Whole enc Tryd.prog Tryd.f3.params.toList Rows.fnExactParseFactSpec.vars false W args.toList ds gs before) (hSh : W.ShapedOpen Tryd.prog) (hL : laidMetH Tryd.prog Rows.fnExactParseFactRow.laid W) :
    Calls Tryd.prog 3 args W fun e W' => ∃ v, e = .returned v ∧ Rows.fnExactParseFactSpec.post enc Tryd.prog Tryd.f3 false true false false W args v W' := by
  have hval : ∀ (j : Nat) t v, Tryd.f3.params[j]? = some t → args[j]? = some v → Value.okWide Tryd.prog W .any base t v := hval0
  have hW' := hW
  obtain ⟨p, q, hA0, hV, rfl, hfz, hnd⟩ := hW
  have hA : DataW.TrodAll enc Tryd.prog W 0 (fun _ => true) true Tryd.f3.params.toList args.toList ds p := hA0
  rw [Tryd.params3] at hA hval
  obtain ⟨v0, vs0, d0, ds0, p0, q0, hargs, rfl, rfl, h0, r0⟩ := trodAll_cons hA
  obtain ⟨rfl, rfl, rfl⟩ := trodAll_nil r0
  obtain rfl : args = #[v0] := by cases args; simp_all
  have hV2 := hV
  obtain ⟨dv, rfl⟩ : ∃ dv, gs = [dv] := by obtain ⟨_, _, _, _, d, _, e, _⟩ := trodVars_one hV; exact ⟨d, e⟩
  have k0 := h0
  have lt0 : ∀ x ∈ p0, x.block < W.heap.size := by obtain ⟨m, hm⟩ := k0; exact DataW.trod_lt m _ _ _ hm
  obtain ⟨s0, rfl, rfl, rfl, hs0⟩ := open_string Tryd.underlying9 (hval 0 9 v0 rfl rfl) h0
  clear hA0 hval0
  refine (walk s0 W hs0 (names_met hL) (maxl_of hSh)).mono fun e W' ⟨he, bel⟩ => ?_
  subst he
  exact ⟨_, rfl, _, _, _, [], _, q, hW', trodAll_mk1 (shut_bool Tryd.underlying4 _), (trodAll_cons_mk (Below.trod laid_out (by kernel_rfl) (of_decide_eq_true (by kernel_rfl)) k0 bel lt0) trodAll_mk0), Below.trodVars laid_out bel (by kernel_rfl) hV2, bel.frame _, fun h => by cases h⟩

set_option maxRecDepth 100000 in
theorem lifted (os : Os) (started : os.Started) (H : Type) (enc : TypeId × Value → H) (F : Stop.Interp) :
    ReturnsInHanded {} Tryd.checked os 3 .any ((OpenSpec.ofChange Rows.fnExactParseFactSpec).preRow enc Tryd.prog Tryd.f3 Rows.fnExactParseFactRow.domain false Rows.fnExactParseFactRow.laid) (((OpenSpec.ofChange Rows.fnExactParseFactSpec).at F).post enc Tryd.prog Tryd.f3 false true false false) := by
  obtain ⟨x, hx⟩ := Option.isSome_iff_exists.1 (show (DataW.whole enc Tryd.prog ((laidWorld os).forCall (fun _ _ => 0) ⟨#[], #[.string ByteArray.empty], []⟩).memory Tryd.f3.params.toList Rows.fnExactParseFactSpec.vars false (#[.string ByteArray.empty] : Array Value).toList 8).isSome = true by kernel_rfl)
  refine returnsInHanded_of_row (C := Tryd.checked) (s := OpenSpec.ofChange Rows.fnExactParseFactSpec) own_knob started (by kernel_rfl) Tryd.func3
    (witness_row_at (enc := enc) (C := Tryd.checked) false (laidWorld os) #[.string ByteArray.empty] rfl (by kernel_rfl) (by kernel_rfl) (by kernel_rfl)
      (OpenSpec.preRow_of_cond 8 hx rfl (fun k hk => by cases hk) (by kernel_rfl) (laidMet_of_run' 8 (by kernel_rfl) (by kernel_rfl)))) ?_
  intro W base args ds gs before hval hW _ _ _ hL hSh _
  exact contract H enc W base args ds gs before hval hW hSh hL

theorem said : Rows.FnExactParseFactSaid :=
  OpenClaim.holds_of_cond 3 Tryd.f3 rfl rfl rfl rfl rfl rfl rfl ⟨rfl, rfl, rfl, rfl, rfl⟩ rfl rfl rfl rfl rfl (by kernel_rfl) Tryd.func3 (by kernel_rfl)
    (of_decide_eq_true (by kernel_rfl)) (by unfold Func.isWrapper; first | (rw [if_pos (by decide +kernel)]; kernel_rfl) | (rw [if_neg (by decide +kernel)]; exact ⟨rfl, rfl⟩))
    (fun os started H enc _ F => by rw [OpenClaim.pre_eq_preRow]; exact lifted os started H enc F)

theorem plain (f : FuncId) (fn : Func) (hf : Tryd.pinned.checked.prog.funcNamed "loop.example/separation/laws.FnExactParseFact" = some f) (hfn : Tryd.pinned.checked.prog.funcs[f]? = some fn) :
    false = Tryd.pinned.checked.prog.looks [] ∧ ∀ (j : Nat) t, fn.params[j]? = some t → Tryd.pinned.checked.prog.wantsStandIn t = false := by
  obtain rfl : f = 3 := Option.some.inj ((show Tryd.prog.funcNamed "loop.example/separation/laws.FnExactParseFact" = some 3 by kernel_rfl).symm.trans hf) |>.symm
  obtain rfl : fn = Tryd.f3 := (Option.some.inj (Tryd.func3.symm.trans hfn)).symm
  refine ⟨by kernel_rfl, fun j t ht => ?_⟩
  rw [Tryd.params3] at ht
  obtain rfl : t = 9 := by simpa using Array.mem_of_getElem? ht
  exact (show Tryd.prog.wantsStandIn 9 = false by kernel_rfl)

/-- The card. -/
theorem proved : Rows.FnExactParseFactCardSaid :=
  Claim7.holds_tied_plain_at .later [] _ _ _ _ said (fun _ h => by cases h) (by kernel_rfl) (fun _ h => by cases h) fnExactParseFact_row_tie rfl ⟨rfl, rfl⟩ (by kernel_rfl) rfl plain (by kernel_rfl)
#print axioms proved

end Go.Proofs.YtinnopkeoohgeaaDoor.lawFnExactParseFact
