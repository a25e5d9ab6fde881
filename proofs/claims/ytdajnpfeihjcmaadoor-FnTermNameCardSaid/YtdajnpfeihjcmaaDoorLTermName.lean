/- FnTermName: naming and parsing of terms are inverse, as in the reference. No conditions. -/
import Derived.Test.YtdajnpfeihjcmaaDoorRowT
import Derived.Test.YtdajnpfeihjcmaaDoorTx
namespace Go.Proofs.YtdajnpfeihjcmaaDoor.lawFnTermName
open Go.ChangeShapes Go.WideShapes Go.ChangeAt Go.RowKit Go.Joins Go.Deep
open Go.ChangeMaps (open_string shut_string)
set_option linter.unusedVariables false


theorem walk (A : Option Addr) (c n : Nat) (A2 : Option Addr) (c2 n2 : Nat) (w : World) (hA : Bytes w A n) (hn : n ≤ 9223372036854775807) (hc : n ≤ c) (hA2 : Bytes w A2 n2) (hn2 : n2 ≤ 9223372036854775807) (hc2 : n2 ≤ c2) (hT : TabN w) :
    Calls Tryd.prog 6 #[.slice A n c, .slice A2 n2 c2] w fun e w' => e = .returned (.bool true) ∧ Grow w w' := by
  by_cases h1 : 1048576 < (n : Int)
  · go_enter Tryd.func6, Tryd.ntmps6
    go_wp2_with fail
    go_ret
    exact ⟨rfl, (by repeat (first | exact Grow.refl _ | assumption | refine Grow.alloc ?_ _ | refine Grow.drew ?_ | refine Grow.drewN ?_ _ | refine Grow.trans ?_ (by assumption) | refine Grow.below ?_ (by assumption) (by first | exact Nat.le_refl _ | omega)))⟩
  · by_cases h2 : 1048576 < (n2 : Int)
    · go_enter Tryd.func6, Tryd.ntmps6
      go_wp2_with fail
      go_ret
      exact ⟨rfl, (by repeat (first | exact Grow.refl _ | assumption | refine Grow.alloc ?_ _ | refine Grow.drew ?_ | refine Grow.drewN ?_ _ | refine Grow.trans ?_ (by assumption) | refine Grow.below ?_ (by assumption) (by first | exact Nat.le_refl _ | omega)))⟩
    · go_enter Tryd.func6, Tryd.ntmps6
      go_wp2_with fail
      refine (DrawTermName_c A n c _ hA hn hc).mono ?_
      rintro e w1 ⟨⟨t, rfl⟩, g1⟩
      have hT1 := hT.grow g1
      go_wp2_with fail
      refine (TermName_c t _ hT1).mono ?_
      rintro e w2 ⟨rfl, rfl⟩
      have hb : ((Pl.str (Pl.nm t)).toList == (Pl.str (Pl.nm t)).toList) = true := str_yes rfl
      go_wp2_with fail
      refine (sTermName_c t _).mono ?_
      rintro e w2 ⟨rfl, rfl⟩
      cases ht : Pl.tmB t with
      | true =>
        have CI : Calls Tryd.prog 10 #[.string (Pl.str (Pl.nm t))] w1 fun e w' => e = .returned (.tuple #[.int .i64 t, .bool true]) ∧ w1 = w' := by
          have := ParseTerm_c (Pl.nm t) w1 hT1
          rw [Pl.pT_nm ht] at this
          exact this
        have he : ((Pl.str (Pl.nm t)).toList == ([] : List UInt8)) = false := by rw [ByteArray.toList_eq, Pl.str_data]; simpa using Pl.nm_ne ht
        clear ht
        go_wp2_with fail
        refine (CI).mono ?_
        rintro e w2 ⟨rfl, rfl⟩
        go_wp2_with fail
        refine (DrawParseTerm_c A2 n2 c2 _ (hA2.grow (by repeat (first | exact Grow.refl _ | assumption | refine Grow.alloc ?_ _ | refine Grow.drew ?_ | refine Grow.drewN ?_ _ | refine Grow.trans ?_ (by assumption) | refine Grow.below ?_ (by assumption) (by first | exact Nat.le_refl _ | omega)))) hn2 hc2).mono ?_
        rintro e w2 ⟨⟨s, rfl⟩, g2⟩
        have hT2 := hT1.grow g2
        obtain ⟨⟨v, fine⟩, hr⟩ : ∃ r, r = Pl.pT s := ⟨_, rfl⟩
        have CI2 : Calls Tryd.prog 10 #[.string (Pl.str s)] w2 fun e w' => e = .returned (.tuple #[.int .i64 v, .bool fine]) ∧ w2 = w' := by have := ParseTerm_c s w2 hT2; rw [← hr] at this; exact this
        have CS2 : Calls Tryd.prog 9 #[.string (Pl.str s)] w2 fun e w' => e = .returned (.tuple #[.int .i64 v, .bool fine]) ∧ w2 = w' := by have := sParseTerm_c s w2; rw [← hr] at this; exact this
        cases fine with
        | true =>
          have HV := Pl.pT_sound hr.symm
          have hb2 : ((Pl.str (Pl.nm v)).toList == (Pl.str s).toList) = true := str_yes HV.2
          clear HV hr
          go_wp2_with fail
          refine (CI2).mono ?_
          rintro e w3 ⟨rfl, rfl⟩
          go_wp2_with fail
          refine (CS2).mono ?_
          rintro e w3 ⟨rfl, rfl⟩
          go_wp2_with fail
          refine (TermName_c v _ hT2).mono ?_
          rintro e w3 ⟨rfl, rfl⟩
          go_wp2_with fail
          go_ret
          exact ⟨rfl, (by repeat (first | exact Grow.refl _ | assumption | refine Grow.alloc ?_ _ | refine Grow.drew ?_ | refine Grow.drewN ?_ _ | refine Grow.trans ?_ (by assumption) | refine Grow.below ?_ (by assumption) (by first | exact Nat.le_refl _ | omega)))⟩
        | false =>
          clear hr
          go_wp2_with fail
          refine (CI2).mono ?_
          rintro e w3 ⟨rfl, rfl⟩
          go_wp2_with fail
          refine (CS2).mono ?_
          rintro e w3 ⟨rfl, rfl⟩
          go_wp2_with fail
          go_ret
          exact ⟨rfl, (by repeat (first | exact Grow.refl _ | assumption | refine Grow.alloc ?_ _ | refine Grow.drew ?_ | refine Grow.drewN ?_ _ | refine Grow.trans ?_ (by assumption) | refine Grow.below ?_ (by assumption) (by first | exact Nat.le_refl _ | omega)))⟩
      | false =>
        have CI : Calls Tryd.prog 10 #[.string (Pl.str (Pl.nm t))] w1 fun e w' => e = .returned (.tuple #[.int .i64 0, .bool false]) ∧ w1 = w' := by
          have := ParseTerm_c (Pl.nm t) w1 hT1
          rw [Pl.nm_bad ht, show Pl.pT [] = (0, false) by decide] at this
          rw [Pl.nm_bad ht]
          exact this
        have he : ((Pl.str (Pl.nm t)).toList == ([] : List UInt8)) = true := by rw [ByteArray.toList_eq, Pl.str_data, Pl.nm_bad ht]; rfl
        clear ht
        go_wp2_with fail
        refine (CI).mono ?_
        rintro e w2 ⟨rfl, rfl⟩
        go_wp2_with fail
        refine (DrawParseTerm_c A2 n2 c2 _ (hA2.grow (by repeat (first | exact Grow.refl _ | assumption | refine Grow.alloc ?_ _ | refine Grow.drew ?_ | refine Grow.drewN ?_ _ | refine Grow.trans ?_ (by assumption) | refine Grow.below ?_ (by assumption) (by first | exact Nat.le_refl _ | omega)))) hn2 hc2).mono ?_
        rintro e w2 ⟨⟨s, rfl⟩, g2⟩
        have hT2 := hT1.grow g2
        obtain ⟨⟨v, fine⟩, hr⟩ : ∃ r, r = Pl.pT s := ⟨_, rfl⟩
        have CI2 : Calls Tryd.prog 10 #[.string (Pl.str s)] w2 fun e w' => e = .returned (.tuple #[.int .i64 v, .bool fine]) ∧ w2 = w' := by have := ParseTerm_c s w2 hT2; rw [← hr] at this; exact this
        have CS2 : Calls Tryd.prog 9 #[.string (Pl.str s)] w2 fun e w' => e = .returned (.tuple #[.int .i64 v, .bool fine]) ∧ w2 = w' := by have := sParseTerm_c s w2; rw [← hr] at this; exact this
        cases fine with
        | true =>
          have HV := Pl.pT_sound hr.symm
          have hb2 : ((Pl.str (Pl.nm v)).toList == (Pl.str s).toList) = true := str_yes HV.2
          clear HV hr
          go_wp2_with fail
          refine (CI2).mono ?_
          rintro e w3 ⟨rfl, rfl⟩
          go_wp2_with fail
          refine (CS2).mono ?_
          rintro e w3 ⟨rfl, rfl⟩
          go_wp2_with fail
          refine (TermName_c v _ hT2).mono ?_
          rintro e w3 ⟨rfl, rfl⟩
          go_wp2_with fail
          go_ret
          exact ⟨rfl, (by repeat (first | exact Grow.refl _ | assumption | refine Grow.alloc ?_ _ | refine Grow.drew ?_ | refine Grow.drewN ?_ _ | refine Grow.trans ?_ (by assumption) | refine Grow.below ?_ (by assumption) (by first | exact Nat.le_refl _ | omega)))⟩
        | false =>
          clear hr
          go_wp2_with fail
          refine (CI2).mono ?_
          rintro e w3 ⟨rfl, rfl⟩
          go_wp2_with fail
          refine (CS2).mono ?_
          rintro e w3 ⟨rfl, rfl⟩
          go_wp2_with fail
          go_ret
          exact ⟨rfl, (by repeat (first | exact Grow.refl _ | assumption | refine Grow.alloc ?_ _ | refine Grow.drew ?_ | refine Grow.drewN ?_ _ | refine Grow.trans ?_ (by assumption) | refine Grow.below ?_ (by assumption) (by first | exact Nat.le_refl _ | omega)))⟩

theorem contract (H : Type) (enc : TypeId × Value → H) (W : World) (base : Nat) (args : Array Value) (ds gs : List (DataW H)) (before : List MemPlace)
    (hval0 : ∀ (j : Nat) t v, Tryd.f6.params[j]? = some t → args[j]? = some v → Value.okWide Tryd.prog W .any base t v)
    (hW : DataW.Whole enc Tryd.prog Tryd.f6.params.toList Rows.fnTermNameSpec.vars false W args.toList ds gs before) (hL : laidMetH Tryd.prog Rows.fnTermNameRow.laid W) :
    Calls Tryd.prog 6 args W fun e W' => ∃ v, e = .returned v ∧ Rows.fnTermNameSpec.post enc Tryd.prog Tryd.f6 false true false false W args v W' := by
  have hval : ∀ (j : Nat) t v, Tryd.f6.params[j]? = some t → args[j]? = some v → Value.okWide Tryd.prog W .any base t v := hval0
  have hW' := hW
  obtain ⟨p, q, hA0, hV, rfl, hfz, hnd⟩ := hW
  have hA : DataW.TrodAll enc Tryd.prog W 0 (fun _ => true) true Tryd.f6.params.toList args.toList ds p := hA0
  rw [Tryd.params6] at hA hval
  obtain ⟨v0, vs0, d0, ds0, p0, q0, hargs, rfl, rfl, h0, r0⟩ := trodAll_cons hA
  obtain ⟨v1, vs1, d1, ds1, p1, q1, rfl, rfl, rfl, h1, r1⟩ := trodAll_cons r0
  obtain ⟨rfl, rfl, rfl⟩ := trodAll_nil r1
  obtain rfl : args = #[v0, v1] := by cases args; simp_all
  have hV2 := hV
  obtain ⟨dv, rfl⟩ : ∃ dv, gs = [dv] := by obtain ⟨_, _, _, _, d, _, e, _⟩ := trodVars_one hV; exact ⟨d, e⟩
  have k0 := h0
  have lt0 : ∀ x ∈ p0, x.block < W.heap.size := by obtain ⟨m, hm⟩ := k0; exact DataW.trod_lt m _ _ _ hm
  obtain ⟨a0, len0, cap0, rfl⟩ := okWide_slice Tryd.underlying33 (hval 0 33 v0 rfl rfl)
  obtain ⟨hb0, w0, hc0⟩ : len0 ≤ 9223372036854775807 ∧ Bytes W a0 len0 ∧ len0 ≤ cap0 := by
    obtain ⟨fuel, hf⟩ := h0
    exact open_bytesL (by simpa [Value.cells] using hf)
  have k1 := h1
  have lt1 : ∀ x ∈ p1, x.block < W.heap.size := by obtain ⟨m, hm⟩ := k1; exact DataW.trod_lt m _ _ _ hm
  obtain ⟨a1, len1, cap1, rfl⟩ := okWide_slice Tryd.underlying33 (hval 1 33 v1 rfl rfl)
  obtain ⟨hb1, w1, hc1⟩ : len1 ≤ 9223372036854775807 ∧ Bytes W a1 len1 ∧ len1 ≤ cap1 := by
    obtain ⟨fuel, hf⟩ := h1
    exact open_bytesL (by simpa [Value.cells] using hf)
  clear hA0 hval0
  refine (walk a0 cap0 len0 a1 cap1 len1 W w0 hb0 hc0 w1 hb1 hc1 (names_met hL)).mono fun e W' ⟨he, bel⟩ => ?_
  subst he
  exact ⟨_, rfl, _, _, _, [], _, q, hW', trodAll_mk1 (shut_bool Tryd.underlying4 _), (trodAll_cons_mk (Below.trod laid_out (by kernel_rfl) (of_decide_eq_true (by kernel_rfl)) k0 bel lt0) (trodAll_cons_mk (Below.trod laid_out (by kernel_rfl) (of_decide_eq_true (by kernel_rfl)) k1 bel lt1) trodAll_mk0)), Below.trodVars laid_out bel (by kernel_rfl) hV2, bel.frame _, fun h => by cases h⟩

set_option maxRecDepth 100000 in
theorem lifted (os : Os) (started : os.Started) (H : Type) (enc : TypeId × Value → H) (F : Stop.Interp) :
    ReturnsInHanded {} Tryd.checked os 6 .any ((OpenSpec.ofChange Rows.fnTermNameSpec).preRow enc Tryd.prog Tryd.f6 Rows.fnTermNameRow.domain false Rows.fnTermNameRow.laid) (((OpenSpec.ofChange Rows.fnTermNameSpec).at F).post enc Tryd.prog Tryd.f6 false true false false) := by
  obtain ⟨x, hx⟩ := Option.isSome_iff_exists.1 (show (DataW.whole enc Tryd.prog ((laidWorld os).forCall (fun _ _ => 0) ⟨#[], #[.slice none 0 0, .slice none 0 0], []⟩).memory Tryd.f6.params.toList Rows.fnTermNameSpec.vars false (#[.slice none 0 0, .slice none 0 0] : Array Value).toList 8).isSome = true by kernel_rfl)
  refine returnsInHanded_of_row (C := Tryd.checked) (s := OpenSpec.ofChange Rows.fnTermNameSpec) own_knob started (by kernel_rfl) Tryd.func6
    (witness_row_at (enc := enc) (C := Tryd.checked) false (laidWorld os) #[.slice none 0 0, .slice none 0 0] rfl (by kernel_rfl) (by kernel_rfl) (by kernel_rfl)
      (OpenSpec.preRow_of_cond 8 hx rfl (fun k hk => by cases hk) (by kernel_rfl) (laidMet_of_run' 8 (by kernel_rfl) (by kernel_rfl)))) ?_
  intro W base args ds gs before hval hW _ _ _ hL _ _
  exact contract H enc W base args ds gs before hval hW hL

theorem said : Rows.FnTermNameSaid :=
  OpenClaim.holds_of_cond 6 Tryd.f6 rfl rfl rfl rfl rfl rfl rfl ⟨rfl, rfl, rfl, rfl, rfl⟩ rfl rfl rfl rfl rfl (by kernel_rfl) Tryd.func6 (by kernel_rfl)
    (of_decide_eq_true (by kernel_rfl)) (by unfold Func.isWrapper; first | (rw [if_pos (by decide +kernel)]; kernel_rfl) | (rw [if_neg (by decide +kernel)]; exact ⟨rfl, rfl⟩))
    (fun os started H enc _ F => by rw [OpenClaim.pre_eq_preRow]; exact lifted os started H enc F)

theorem plain (f : FuncId) (fn : Func) (hf : Tryd.pinned.checked.prog.funcNamed "loop.example/separation/laws.FnTermName" = some f) (hfn : Tryd.pinned.checked.prog.funcs[f]? = some fn) :
    false = Tryd.pinned.checked.prog.looks [] ∧ ∀ (j : Nat) t, fn.params[j]? = some t → Tryd.pinned.checked.prog.wantsStandIn t = false := by
  obtain rfl : f = 6 := Option.some.inj ((show Tryd.prog.funcNamed "loop.example/separation/laws.FnTermName" = some 6 by kernel_rfl).symm.trans hf) |>.symm
  obtain rfl : fn = Tryd.f6 := (Option.some.inj (Tryd.func6.symm.trans hfn)).symm
  refine ⟨by kernel_rfl, fun j t ht => ?_⟩
  rw [Tryd.params6] at ht
  obtain rfl : t = 33 := by simpa using Array.mem_of_getElem? ht
  exact (show Tryd.prog.wantsStandIn 33 = false by kernel_rfl)

/-- The card. -/
theorem proved : Rows.FnTermNameCardSaid :=
  Claim7.holds_tied_plain_at .later [] _ _ _ _ said (fun _ h => by cases h) (by kernel_rfl) (fun _ h => by cases h) fnTermName_row_tie rfl ⟨rfl, rfl⟩ (by kernel_rfl) rfl plain (by kernel_rfl)
#print axioms proved

end Go.Proofs.YtdajnpfeihjcmaaDoor.lawFnTermName
