/- FnStateSame: sameness of states is the sameness of their texts. No conditions. -/
import Derived.Test.YtifdefkkofngoaaDoorDrawEs
import Derived.Test.YtifdefkkofngoaaDoorFst
import Derived.Test.YtifdefkkofngoaaDoorPlainAll
import Derived.Test.YtifdefkkofngoaaDoorRowLL
namespace Go.Proofs.YtifdefkkofngoaaDoor.lawFnStateSame
open Go.ChangeShapes Go.WideShapes Go.ChangeAt Go.RowKit Go.Joins Go.Deep
open Go.ChangeMaps (open_string shut_string)
set_option linter.unusedVariables false
set_option linter.unusedSimpArgs false

theorem str_nil (s : List UInt8) (b : Bool) (h : b = decide (s = [])) : ((Pl.str s).toList == (⟨#[]⟩ : ByteArray).toList) = b := by
  subst h
  by_cases e : s = []
  · subst e; exact str_yes rfl
  · rw [decide_eq_false e]; exact str_no e
theorem str_if (s : List UInt8) (b : Bool) (h : b = decide (s = [])) : if b then (Pl.str s).toList = [] else ¬ (Pl.str s).toList = [] := by
  have k := str_nil s b h
  rw [show (⟨#[]⟩ : ByteArray).toList = [] from by simp] at k
  cases b with
  | true => exact eq_of_beq k
  | false => intro e; exact ne_of_beq_false k e
theorem str_dec (s t : List UInt8) (b : Bool) (h : b = decide (s = t)) : ((Pl.str s).toList == (Pl.str t).toList) = b := by
  subst h
  by_cases e : s = t
  · rw [decide_eq_true e]; exact str_yes e
  · rw [decide_eq_false e]; exact str_no e

set_option maxRecDepth 100000 in
set_option maxHeartbeats 6400000 in
theorem walk (A : Option Addr) (c n : Nat) (w : World) (hA : Bytes w A n) (hn : n ≤ 9223372036854775807) (hnc : n ≤ c) (hT : TabN w) (hM : MaxL w) :
    Calls Tryd.prog 6 #[.slice A n c] w fun e w' => e = .returned (.bool true) ∧ Grow w w' := by
  by_cases hn20 : (1048576 : Int) < (n : Int)
  · go_enter Tryd.func6, Tryd.ntmps6
    go_wp2
    go_ret
    exact ⟨rfl, (by repeat (first | exact Grow.refl _ | assumption | refine Grow.alloc ?_ _ | refine Grow.drew ?_ | refine Grow.drewN ?_ _ | refine Grow.trans ?_ (by assumption) | refine Grow.below ?_ (by assumption) (by first | exact Nat.le_refl _ | omega)))⟩
  go_enter Tryd.func6, Tryd.ntmps6
  go_wp2_with fail
  refine (DrawStateSame_c A n c _ hA hn hnc).mono ?_
  rintro e w1 ⟨A1, B1, c1, d1, sv, sh, A2, B2, c2, d2, tv, th, rfl, o1, o2, ⟨hsf, hsa⟩, ⟨htf, hta⟩, g1⟩
  obtain ⟨s, hs⟩ : ∃ s : Pl.St, s = ⟨sv, sh⟩ := ⟨_, rfl⟩
  obtain ⟨t, ht⟩ : ∃ s : Pl.St, s = ⟨tv, th⟩ := ⟨_, rfl⟩
  replace hsf : s.v.length ≤ 100 := by rw [hs]; exact hsf
  replace hsa : s.h.length ≤ 100 := by rw [hs]; exact hsa
  replace htf : t.v.length ≤ 100 := by rw [ht]; exact htf
  replace hta : t.h.length ≤ 100 := by rw [ht]; exact hta
  rw [← hs] at o1 ⊢
  rw [← ht] at o2 ⊢
  clear hs ht
  have q : Grow w1 ((w1.alloc (.cells #[.slice A1 s.v.length c1, .slice B1 s.h.length d1] 27)).alloc (.cells #[.slice A2 t.v.length c2, .slice B2 t.h.length d2] 27)) := (by repeat (first | exact Grow.refl _ | assumption | refine Grow.alloc ?_ _ | refine Grow.drew ?_ | refine Grow.drewN ?_ _ | refine Grow.trans ?_ (by assumption) | refine Grow.below ?_ (by assumption) (by first | exact Nat.le_refl _ | omega)))
  have y5 := (Box2.new w1 27 (.slice A1 s.v.length c1) (.slice B1 s.h.length d1)).grow (show Grow _ ((w1.alloc (.cells #[.slice A1 s.v.length c1, .slice B1 s.h.length d1] 27)).alloc (.cells #[.slice A2 t.v.length c2, .slice B2 t.h.length d2] 27)) from Grow.alloc (Grow.refl _) _)
  have y6 := Box2.new (w1.alloc (.cells #[.slice A1 s.v.length c1, .slice B1 s.h.length d1] 27)) 27 (.slice A2 t.v.length c2) (.slice B2 t.h.length d2)
  simp only [World.size_alloc] at y6
  have S := o1.st.grow q
  have T := o2.st.grow q
  have G := g1.trans q
  clear o1 o2 g1 q hA hnc
  obtain ⟨r1, hr1⟩ : ∃ r, r = Pl.fmtS s := ⟨_, rfl⟩
  obtain ⟨r2, hr2⟩ : ∃ r, r = Pl.fmtS t := ⟨_, rfl⟩
  obtain ⟨p, hp⟩ : ∃ p, p = decide (s = t) := ⟨_, rfl⟩
  have L := Pl.fmt_sameS s t
  rw [← hr1, ← hr2, ← hp] at L
  have C1 := Lib.hid (show ∀ W, Sts W A1 B1 s → Sts W A2 B2 t → Calls Tryd.prog 21 #[.agg #[.slice A1 s.v.length c1, .slice B1 s.h.length d1], .agg #[.slice A2 t.v.length c2, .slice B2 t.h.length d2]] W fun e w' => e = .returned (.bool p) ∧ Grow W w' from fun W k k9 => by rw [hp]; exact StateSame_c A1 B1 A2 B2 c1 d1 c2 d2 s t W k k9 (by omega) (by omega) (by omega) (by omega))
  have C2 := Lib.hid (show ∀ W, Sts W A1 B1 s → Sts W A2 B2 t → Calls Tryd.prog 21 #[.agg #[.slice A2 t.v.length c2, .slice B2 t.h.length d2], .agg #[.slice A1 s.v.length c1, .slice B1 s.h.length d1]] W fun e w' => e = .returned (.bool p) ∧ Grow W w' from fun W k k9 => by rw [hp, show decide (s = t) = decide (t = s) from decide_eq_decide.2 ⟨Eq.symm, Eq.symm⟩]; exact StateSame_c A2 B2 A1 B1 c2 d2 c1 d1 t s W k9 k (by omega) (by omega) (by omega) (by omega))
  have C3 := Lib.hid (show ∀ W, Sts W A1 B1 s → Calls Tryd.prog 21 #[.agg #[.slice A1 s.v.length c1, .slice B1 s.h.length d1], .agg #[.slice A1 s.v.length c1, .slice B1 s.h.length d1]] W fun e w' => e = .returned (.bool true) ∧ Grow W w' from fun W k => by have := StateSame_c A1 B1 A1 B1 c1 d1 c1 d1 s s W k k (by omega) (by omega) (by omega) (by omega); rw [decide_eq_true rfl] at this; exact this)
  have C4 := Lib.hid (show ∀ W, Sts W A1 B1 s → Sts W A2 B2 t → Calls Tryd.prog 24 #[.agg #[.slice A1 s.v.length c1, .slice B1 s.h.length d1], .agg #[.slice A2 t.v.length c2, .slice B2 t.h.length d2]] W fun e w' => e = .returned (.bool p) ∧ Grow W w' from fun W k k9 => by rw [hp]; exact sStateSame_c A1 B1 A2 B2 c1 d1 c2 d2 s t W k k9 (by omega) (by omega) (by omega) (by omega))
  have C5 := Lib.hid (show ∀ W, Sts W A1 B1 s → TabN W → Calls Tryd.prog 12 #[.agg #[.slice A1 s.v.length c1, .slice B1 s.h.length d1]] W fun e w' => e = .returned (.string (Pl.str r1)) ∧ Grow W w' from fun W k k9 => by rw [hr1]; exact FormatState_c A1 B1 c1 d1 s W k (by omega) (by omega) k9)
  have C6 := Lib.hid (show ∀ W, Sts W A2 B2 t → TabN W → Calls Tryd.prog 12 #[.agg #[.slice A2 t.v.length c2, .slice B2 t.h.length d2]] W fun e w' => e = .returned (.string (Pl.str r2)) ∧ Grow W w' from fun W k k9 => by rw [hr2]; exact FormatState_c A2 B2 c2 d2 t W k (by omega) (by omega) k9)
  obtain ⟨e1, he1⟩ : ∃ b, b = decide (r1 = []) := ⟨_, rfl⟩
  obtain ⟨e2, he2⟩ : ∃ b, b = decide (r2 = []) := ⟨_, rfl⟩
  obtain ⟨e3, he3⟩ : ∃ b, b = decide (r1 = r2) := ⟨_, rfl⟩
  have hs1 := str_nil r1 e1 he1
  have hs2 := str_nil r2 e2 he2
  have hs3 := str_dec r1 r2 e3 he3
  have hi1 := str_if r1 e1 he1
  have hi2 := str_if r2 e2 he2
  have L2 : e1 = true ∨ e2 = true ∨ p = e3 := by
    rcases L with h | h | h
    · exact .inl (by rw [he1]; exact decide_eq_true h)
    · exact .inr (.inl (by rw [he2]; exact decide_eq_true h))
    · exact .inr (.inr (by rw [he3]; exact h))
  clear L hr1 hr2 hp he1 he2 he3
  go_wp2_with fail
  obtain ⟨sA, rfl⟩ : ∃ x, x = s := ⟨_, rfl⟩
  generalize (w1.alloc (.cells #[.slice A1 sA.v.length c1, .slice B1 sA.h.length d1] 27)).alloc (.cells #[.slice A2 t.v.length c2, .slice B2 t.h.length d2] 27) = w2 at *
  obtain ⟨p0, p1, _, _⟩ := y5.facts
  obtain ⟨q0, q1, _, _⟩ := y6.facts
  go_wp2_with fail
  refine (C1.out _ S T).mono ?_
  rintro e w3 ⟨rfl, g3⟩
  replace p0 := g3.cell p0; replace p1 := g3.cell p1; replace q0 := g3.cell q0; replace q1 := g3.cell q1
  replace S := S.grow g3; replace T := T.grow g3; replace G := G.trans g3
  go_wp2_with fail
  refine (C4.out _ S T).mono ?_
  rintro e w4 ⟨rfl, g4⟩
  replace p0 := g4.cell p0; replace p1 := g4.cell p1; replace q0 := g4.cell q0; replace q1 := g4.cell q1
  replace S := S.grow g4; replace T := T.grow g4; replace G := G.trans g4
  cases p
  all_goals
    go_wp2_with fail
    refine (C2.out _ S T).mono ?_
    rintro e w5 ⟨rfl, g5⟩
    replace p0 := g5.cell p0; replace p1 := g5.cell p1; replace q0 := g5.cell q0; replace q1 := g5.cell q1
    replace S := S.grow g5; replace T := T.grow g5; replace G := G.trans g5
    go_wp2_with fail
    refine (C3.out _ S).mono ?_
    rintro e w6 ⟨rfl, g6⟩
    replace p0 := g6.cell p0; replace p1 := g6.cell p1; replace q0 := g6.cell q0; replace q1 := g6.cell q1
    replace S := S.grow g6; replace T := T.grow g6; replace G := G.trans g6
    go_wp2_with fail
    refine (C5.out _ S (hT.grow G)).mono ?_
    rintro e w7 ⟨rfl, g7⟩
    replace p0 := g7.cell p0; replace p1 := g7.cell p1; replace q0 := g7.cell q0; replace q1 := g7.cell q1
    replace S := S.grow g7; replace T := T.grow g7; replace G := G.trans g7
    go_wp2_with fail
    refine (C6.out _ T (hT.grow G)).mono ?_
    rintro e w8 ⟨rfl, g8⟩
    replace G := G.trans g8
    cases e1 <;> cases e2 <;> cases e3
    all_goals
      first
      | (exfalso; revert L2; decide)
      | (simp only [Bool.false_eq_true, if_false, if_true] at hi1 hi2
         go_wp2_with fail
         go_ret
         exact ⟨by rfl, G⟩)

set_option maxRecDepth 100000 in
theorem contract (H : Type) (enc : TypeId × Value → H) (W : World) (base : Nat) (args : Array Value) (ds gs : List (DataW H)) (before : List MemPlace)
    (hval0 : ∀ (j : Nat) t v, Tryd.f6.params[j]? = some t → args[j]? = some v → Value.okWide Tryd.prog W .any base t v)
    (hW : DataW.Whole enc Tryd.prog Tryd.f6.params.toList Rows.fnStateSameSpec.vars false W args.toList ds gs before) (hSh : W.ShapedOpen Tryd.prog) (hL : laidMetH Tryd.prog Rows.fnStateSameRow.laid W) :
    Calls Tryd.prog 6 args W fun e W' => ∃ v, e = .returned v ∧ Rows.fnStateSameSpec.post enc Tryd.prog Tryd.f6 false true false false W args v W' := by
  have hval : ∀ (j : Nat) t v, Tryd.f6.params[j]? = some t → args[j]? = some v → Value.okWide Tryd.prog W .any base t v := hval0
  have hW' := hW
  obtain ⟨p, q, hA0, hV, rfl, hfz, hnd⟩ := hW
  have hA : DataW.TrodAll enc Tryd.prog W 0 (fun _ => true) true Tryd.f6.params.toList args.toList ds p := hA0
  rw [Tryd.params6] at hA hval
  obtain ⟨v0, vs0, d0, ds0, p0, q0, hargs, rfl, rfl, h0, r0⟩ := trodAll_cons hA
  obtain ⟨rfl, rfl, rfl⟩ := trodAll_nil r0
  obtain rfl : args = #[v0] := by cases args; simp_all
  have hV2 := hV
  obtain ⟨dv, rfl⟩ : ∃ dv, gs = [dv] := by obtain ⟨_, _, _, _, d, _, e, _⟩ := trodVars_one hV; exact ⟨d, e⟩
  have k0 := h0
  have lt0 : ∀ x ∈ p0, x.block < W.heap.size := by obtain ⟨m, hm⟩ := k0; exact DataW.trod_lt m _ _ _ hm
  obtain ⟨a0, len0, cap0, rfl⟩ := okWide_slice Tryd.underlying35 (hval 0 35 v0 rfl rfl)
  obtain ⟨hb0, w0, hc0⟩ : len0 ≤ 9223372036854775807 ∧ Bytes W a0 len0 ∧ len0 ≤ cap0 := by
    obtain ⟨fuel, hf⟩ := h0
    exact open_bytesL (by simpa [Value.cells] using hf)
  clear hA0 hval0
  refine (walk a0 cap0 len0 W w0 hb0 hc0 (names_metL (show laidMet Tryd.prog Rows.fnStateSameRow.laid W from hL) (by repeat (first | exact List.mem_cons_self | refine List.mem_cons_of_mem _ ?_))) (maxl_of hSh)).mono fun e W' ⟨he, bel⟩ => ?_
  subst he
  exact ⟨_, rfl, _, _, _, [], _, q, hW', trodAll_mk1 (shut_bool Tryd.underlying4 _), (trodAll_cons_mk (Below.trod laid_out (by kernel_rfl) (of_decide_eq_true (by kernel_rfl)) k0 bel lt0) trodAll_mk0), Below.trodVars laid_out bel (by kernel_rfl) hV2, bel.frame _, fun h => by cases h⟩

set_option maxRecDepth 100000 in
theorem lifted (os : Os) (started : os.Started) (H : Type) (enc : TypeId × Value → H) (F : Stop.Interp) :
    ReturnsInHanded {} Tryd.checked os 6 .any ((OpenSpec.ofChange Rows.fnStateSameSpec).preRow enc Tryd.prog Tryd.f6 Rows.fnStateSameRow.domain false Rows.fnStateSameRow.laid) (((OpenSpec.ofChange Rows.fnStateSameSpec).at F).post enc Tryd.prog Tryd.f6 false true false false) := by
  obtain ⟨x, hx⟩ := Option.isSome_iff_exists.1 (show (DataW.whole enc Tryd.prog ((World.laidAll Tryd.prog os Rows.fnStateSameRow.laid).forCall (fun _ _ => 0) ⟨#[], #[.slice none 0 0], []⟩).memory Tryd.f6.params.toList Rows.fnStateSameSpec.vars false (#[.slice none 0 0] : Array Value).toList 8).isSome = true by kernel_rfl)
  refine returnsInHanded_of_row (C := Tryd.checked) (s := OpenSpec.ofChange Rows.fnStateSameSpec) own_knob started (by kernel_rfl) Tryd.func6
    (witness_row_at (enc := enc) (C := Tryd.checked) false (World.laidAll Tryd.prog os Rows.fnStateSameRow.laid) #[.slice none 0 0] (World.laidAll_os _ _ _) (by kernel_rfl) (by kernel_rfl) (by kernel_rfl)
      (OpenSpec.preRow_of_cond 8 hx rfl (fun k hk => by cases hk) (by kernel_rfl) (show laidMet Tryd.prog Rows.fnStateSameRow.laid _ from laidMet_laidAll _ (by kernel_rfl) (by kernel_rfl)))) ?_
  intro W base args ds gs before hval hW _ _ _ hL hSh _
  exact contract H enc W base args ds gs before hval hW hSh hL

theorem said : Rows.FnStateSameSaid :=
  OpenClaim.holds_of_cond 6 Tryd.f6 rfl rfl rfl rfl rfl rfl rfl ⟨rfl, rfl, rfl, rfl, rfl⟩ rfl rfl rfl rfl rfl (by kernel_rfl) Tryd.func6 (by kernel_rfl)
    (of_decide_eq_true (by kernel_rfl)) (by unfold Func.isWrapper; first | (rw [if_pos (by decide +kernel)]; kernel_rfl) | (rw [if_neg (by decide +kernel)]; exact ⟨rfl, rfl⟩))
    (fun os started H enc _ F => by rw [OpenClaim.pre_eq_preRow]; exact lifted os started H enc F)

theorem plain (f : FuncId) (fn : Func) (hf : Tryd.pinned.checked.prog.funcNamed "loop.example/separation/laws.FnStateSame" = some f) (hfn : Tryd.pinned.checked.prog.funcs[f]? = some fn) :
    false = Tryd.pinned.checked.prog.looks [] ∧ ∀ (j : Nat) t, fn.params[j]? = some t → Tryd.pinned.checked.prog.wantsStandIn t = false := by
  obtain rfl : f = 6 := Option.some.inj ((show Tryd.prog.funcNamed "loop.example/separation/laws.FnStateSame" = some 6 by kernel_rfl).symm.trans hf) |>.symm
  obtain rfl : fn = Tryd.f6 := (Option.some.inj (Tryd.func6.symm.trans hfn)).symm
  refine ⟨by kernel_rfl, fun j t ht => ?_⟩
  rw [Tryd.params6] at ht
  obtain rfl : t = 35 := by simpa using Array.mem_of_getElem? ht
  exact (show Tryd.prog.wantsStandIn 35 = false by kernel_rfl)

/-- The card. -/
theorem proved : Rows.FnStateSameCardSaid :=
  Claim7.holds_tied_plain_at .later [] _ _ _ _ said (fun _ h => by cases h) (by kernel_rfl) (fun _ h => by cases h) fnStateSame_row_tie rfl ⟨rfl, rfl⟩ (by kernel_rfl) rfl plain (by kernel_rfl)
#print axioms proved

end Go.Proofs.YtifdefkkofngoaaDoor.lawFnStateSame
