/- FnExactTermClasses: for every list of facts the program's TermClasses answers as the reference does, in new memory, and leaves its argument alone. No conditions. -/
import Derived.Test.YtcpkmnlhenbnlaaFactI
import Derived.Test.YtcpkmnlhenbnlaaFactT
import Derived.Test.YtcpkmnlhenbnlaaMark
import Derived.Test.YtcpkmnlhenbnlaaRowAid
namespace Go.Proofs.Ytcpkmnlhenbnlaa.lawFnExactTermClasses
open Go.ChangeShapes Go.WideShapes Go.ChangeAt Go.RowKit Go.Joins Go.Deep
open Go.ChangeMaps (open_string shut_string)
set_option linter.unusedVariables false

set_option maxHeartbeats 1600000 in
theorem walk (A : Option Addr) (c : Nat) (l : List Pl.Fct) (w : World) (hA : Facts w A l) (hn : l.length ≤ 9223372036854775807) :
    Calls Try.prog 7 #[.slice A l.length c] w fun e w' => e = .returned (.bool true) ∧ Grow w w' := by
  have ht := tcl_len l
  by_cases h20 : l.length ≤ 1048576
  · have hs := Lib.hid (szv_pos (n := l.length) (left := 1048576) (by omega))
    go_enter Try.func7, Try.ntmps7
    go_wp2_with fail
    refine (szFactS_c _ _ _ _ _ (by omega) (by omega) (by omega)).mono ?_
    rintro e w0 ⟨rfl, rfl⟩
    rw [hs.out]
    go_wp2_with fail
    refine (toFactS_c _ _ l _ hA h20).mono ?_
    rintro e w1 ⟨A1, c1, rfl, o1, g1⟩
    go_wp2_with fail
    refine (sTermClasses_c _ _ l _ (OFacts.facts rfl o1) (by omega)).mono ?_
    rintro e w2 ⟨A2, c2, rfl, o2, g2⟩
    go_wp2_with fail
    refine (toFactS_c _ _ l _ (hA.grow (by repeat (first | exact Grow.refl _ | assumption | refine Grow.alloc ?_ _ | refine Grow.drew ?_ | refine Grow.drewN ?_ _ | refine Grow.trans ?_ (by assumption) | refine Grow.below ?_ (by assumption) (by first | exact Nat.le_refl _ | omega)))) h20).mono ?_
    rintro e w3 ⟨A3, c3, rfl, o3, g3⟩
    go_wp2_with fail
    refine (TermClasses_c _ _ l _ (OFacts.facts rfl o3) (by omega)).mono ?_
    rintro e w4 ⟨A4, c4, rfl, o4, g4⟩
    go_wp2_with fail
    refine (eqIntS_c _ _ _ _ (tcl l) (tcl l) _ (OInts.ints rfl o4) ((OInts.ints rfl o2).grow (by repeat (first | exact Grow.refl _ | assumption | refine Grow.alloc ?_ _ | refine Grow.drew ?_ | refine Grow.drewN ?_ _ | refine Grow.trans ?_ (by assumption) | refine Grow.below ?_ (by assumption) (by first | exact Nat.le_refl _ | omega)))) (by omega) (by omega)).mono ?_
    rintro e w5 ⟨rfl, g5⟩
    go_wp2_with fail
    refine (toFactS_c _ _ l _ (hA.grow (by repeat (first | exact Grow.refl _ | assumption | refine Grow.alloc ?_ _ | refine Grow.drew ?_ | refine Grow.drewN ?_ _ | refine Grow.trans ?_ (by assumption) | refine Grow.below ?_ (by assumption) (by first | exact Nat.le_refl _ | omega)))) h20).mono ?_
    rintro e w6 ⟨A6, c6, rfl, o6, g6⟩
    go_wp2_with fail
    refine (eqFactS_c _ _ _ _ l l _ ((OFacts.facts rfl o3).grow (by repeat (first | exact Grow.refl _ | assumption | refine Grow.alloc ?_ _ | refine Grow.drew ?_ | refine Grow.drewN ?_ _ | refine Grow.trans ?_ (by assumption) | refine Grow.below ?_ (by assumption) (by first | exact Nat.le_refl _ | omega)))) (OFacts.facts rfl o6) (by omega) (by omega)).mono ?_
    rintro e w7 ⟨rfl, g7⟩
    have s2 := g2.le
    have s3 := g3.le
    have s12 := (show Grow w w2 from (by repeat (first | exact Grow.refl _ | assumption | refine Grow.alloc ?_ _ | refine Grow.drew ?_ | refine Grow.drewN ?_ _ | refine Grow.trans ?_ (by assumption) | refine Grow.below ?_ (by assumption) (by first | exact Nat.le_refl _ | omega)))).le
    go_wp2_with fail
    refine (markFactS_c A3 c3 w2.heap.size l 1 _ (own_grow o3 (by repeat (first | exact Grow.refl _ | assumption | refine Grow.alloc ?_ _ | refine Grow.drew ?_ | refine Grow.drewN ?_ _ | refine Grow.trans ?_ (by assumption) | refine Grow.below ?_ (by assumption) (by first | exact Nat.le_refl _ | omega)))) (by omega) (by omega)).mono ?_
    rintro e w8 ⟨rfl, m8, r8⟩
    have b2 := own_blk o2
    have b3 := own_blk o3
    have b4 := own_blk o4
    have G8 : Grow w w8 := (show Grow w w7 from (by repeat (first | exact Grow.refl _ | assumption | refine Grow.alloc ?_ _ | refine Grow.drew ?_ | refine Grow.drewN ?_ _ | refine Grow.trans ?_ (by assumption) | refine Grow.below ?_ (by assumption) (by first | exact Nat.le_refl _ | omega)))).grown r8 (fun k hk => by have := b3 k hk; omega)
    have p4 : OInts w8 w3.heap.size (.slice A4 (tcl l).length c4) (tcl l) := apart_kept o4 (by repeat (first | exact Grow.refl _ | assumption | refine Grow.alloc ?_ _ | refine Grow.drew ?_ | refine Grow.drewN ?_ _ | refine Grow.trans ?_ (by assumption) | refine Grow.below ?_ (by assumption) (by first | exact Nat.le_refl _ | omega))) r8 (fun k hk => .inl (b3 k hk).2)
    have p2 : OInts w8 w1.heap.size (.slice A2 (tcl l).length c2) (tcl l) := apart_kept o2 (by repeat (first | exact Grow.refl _ | assumption | refine Grow.alloc ?_ _ | refine Grow.drew ?_ | refine Grow.drewN ?_ _ | refine Grow.trans ?_ (by assumption) | refine Grow.below ?_ (by assumption) (by first | exact Nat.le_refl _ | omega))) r8 (fun k hk => .inr (b3 k hk).1)
    clear m8 r8 g1 g2 g3 g4 g5 g6 g7
    go_wp2_with fail
    refine (eqIntS_c _ _ _ _ (tcl l) (tcl l) _ (OInts.ints rfl p4) (OInts.ints rfl p2) (by omega) (by omega)).mono ?_
    rintro e w9 ⟨rfl, g9⟩
    go_wp2_with fail
    refine (markIntS_c A4 c4 w3.heap.size (tcl l) 1 _ (own_grow p4 (by repeat (first | exact Grow.refl _ | assumption | refine Grow.alloc ?_ _ | refine Grow.drew ?_ | refine Grow.drewN ?_ _ | refine Grow.trans ?_ (by assumption) | refine Grow.below ?_ (by assumption) (by first | exact Nat.le_refl _ | omega)))) (by omega) (by omega)).mono ?_
    rintro e w10 ⟨rfl, m10, r10⟩
    have G10 : Grow w w10 := (show Grow w w9 from (by repeat (first | exact Grow.refl _ | assumption | refine Grow.alloc ?_ _ | refine Grow.drew ?_ | refine Grow.drewN ?_ _ | refine Grow.trans ?_ (by assumption) | refine Grow.below ?_ (by assumption) (by first | exact Nat.le_refl _ | omega)))).grown r10 (fun k hk => by have := b4 k hk; omega)
    have q2 : OInts w10 w1.heap.size (.slice A2 (tcl l).length c2) (tcl l) := own_kept (own_grow p2 g9) r10 (fun k hk e => by have := b2 k hk; have := b4 k e; omega)
    clear r10 p2 p4 g9
    have hm10 : Ints w10 A4 (markI 1 (tcl l).length) := OInts.ints (by rw [markI_len]) m10
    go_wp2_with fail
    refine (heldIntS_c A4 c4 1 (tcl l).length _ hm10 (by omega) (by omega)).mono ?_
    rintro e w11 ⟨rfl, rfl⟩
    go_wp2_with fail
    refine (toFactS_c _ _ l _ (hA.grow G10) h20).mono ?_
    rintro e w12 ⟨A12, c12, rfl, o12, g12⟩
    go_wp2_with fail
    refine (TermClasses_c _ _ l _ (OFacts.facts rfl o12) (by omega)).mono ?_
    rintro e w13 ⟨A13, c13, rfl, o13, g13⟩
    go_wp2_with fail
    refine (eqIntS_c _ _ _ _ (tcl l) (tcl l) _ (OInts.ints rfl o13) ((OInts.ints rfl q2).grow (by repeat (first | exact Grow.refl _ | assumption | refine Grow.alloc ?_ _ | refine Grow.drew ?_ | refine Grow.drewN ?_ _ | refine Grow.trans ?_ (by assumption) | refine Grow.below ?_ (by assumption) (by first | exact Nat.le_refl _ | omega)))) (by omega) (by omega)).mono ?_
    rintro e w14 ⟨rfl, g14⟩
    go_wp2_with fail
    refine (heldIntS_c A4 c4 1 (tcl l).length _ (hm10.grow (by repeat (first | exact Grow.refl _ | assumption | refine Grow.alloc ?_ _ | refine Grow.drew ?_ | refine Grow.drewN ?_ _ | refine Grow.trans ?_ (by assumption) | refine Grow.below ?_ (by assumption) (by first | exact Nat.le_refl _ | omega)))) (by omega) (by omega)).mono ?_
    rintro e w15 ⟨rfl, rfl⟩
    go_wp2_with fail
    go_ret
    exact ⟨rfl, (by repeat (first | exact Grow.refl _ | assumption | refine Grow.alloc ?_ _ | refine Grow.drew ?_ | refine Grow.drewN ?_ _ | refine Grow.trans ?_ (by assumption) | refine Grow.below ?_ (by assumption) (by first | exact Nat.le_refl _ | omega)))⟩
  · have hs := Lib.hid (szv_neg (n := l.length) (left := 1048576) (by omega))
    go_enter Try.func7, Try.ntmps7
    go_wp2_with (go_at_call 15; refine (szFactS_c _ _ _ _ _ hn (by omega) (by omega)).mono ?_; rintro e w' ⟨rfl, rfl⟩; rw [hs.out])
    go_ret
    exact ⟨rfl, (by repeat (first | exact Grow.refl _ | assumption | refine Grow.alloc ?_ _ | refine Grow.drew ?_ | refine Grow.drewN ?_ _ | refine Grow.trans ?_ (by assumption) | refine Grow.below ?_ (by assumption) (by first | exact Nat.le_refl _ | omega)))⟩

set_option maxRecDepth 100000 in
theorem lifted (os : Os) (started : os.Started) (H : Type) (enc : TypeId × Value → H) :
    ReturnsInHanded {} Try.checked os 7 .any (Rows.fnExactTermClassesSpec.pre6 enc Try.prog Try.f7 Rows.fnExactTermClassesRow.domain false) (Rows.fnExactTermClassesSpec.post enc Try.prog Try.f7 false true false false) := by
  refine returnsInHanded_of_change (C := Try.checked) own_knob started (by kernel_rfl) Try.func7
    (ChangeSpec.witness6 (enc := enc) (C := Try.checked) false ⟨#[], #[.slice none 0 0], []⟩ 8 (by kernel_rfl) (by kernel_rfl) (by kernel_rfl) (by kernel_rfl)) ?_
  intro W base args ds gs before hval0 hW hcnd _
  have hval : ∀ (j : Nat) t v, Try.f7.params[j]? = some t → args[j]? = some v → Value.okWide Try.prog W .any base t v := hval0
  have hW' := hW
  obtain ⟨p, q, hA0, hV, rfl, hfz, hnd⟩ := hW
  have hA : DataW.TrodAll enc Try.prog W 0 (fun _ => true) true Try.f7.params.toList args.toList ds p := hA0
  rw [Try.params7] at hA hval
  obtain ⟨v0, vs0, d0, ds0, p0, q0, hargs, rfl, rfl, h0, r0⟩ := trodAll_cons hA
  obtain ⟨rfl, rfl, rfl⟩ := trodAll_nil r0
  obtain rfl : args = #[v0] := by cases args; simp_all
  obtain ⟨rfl, rfl⟩ := trodVars_none hV
  have k0 := h0
  have lt0 : ∀ x ∈ p0, x.block < W.heap.size := by obtain ⟨m, hm⟩ := k0; exact DataW.trod_lt m _ _ _ hm
  obtain ⟨a0, len0, cap0, rfl⟩ := okWide_slice Try.underlying22 (hval 0 22 v0 rfl rfl)
  obtain ⟨l0, hl0, hb0, w0⟩ : ∃ l : List Pl.Fct, l.length = len0 ∧ len0 ≤ 9223372036854775807 ∧ Facts W a0 l := by
    obtain ⟨fuel, hf⟩ := h0
    exact open_factsL (by simpa [Value.cells] using hf)
  subst hl0
  clear hA0 hval0
  refine (walk a0 cap0 l0 W w0 hb0).mono fun e W' ⟨he, bel⟩ => ?_
  subst he
  exact ⟨_, rfl, _, _, _, [], _, [], hW', trodAll_mk1 (shut_bool Try.underlying4 _), (trodAll_cons_mk (Below.trod laid_out (by kernel_rfl) (of_decide_eq_true (by kernel_rfl)) k0 bel lt0) trodAll_mk0), rfl, bel.frame _, fun h => by cases h⟩

theorem over : Rows.fnExactTermClassesRow.holds Try.pinned (OpenSpec.ofChange Rows.fnExactTermClassesSpec) :=
  OpenClaim.holds_of_wide 7 Try.f7 rfl rfl rfl rfl rfl rfl rfl ⟨rfl, rfl, rfl, rfl, rfl⟩ rfl rfl rfl rfl rfl (by kernel_rfl) Try.func7 (by kernel_rfl)
    (of_decide_eq_true (by kernel_rfl)) (by unfold Func.isWrapper; first | (rw [if_pos (by decide +kernel)]; kernel_rfl) | (rw [if_neg (by decide +kernel)]; exact ⟨rfl, rfl⟩))
    (fun os started H enc _ => lifted os started H enc)

/-- The statement. -/
theorem proved : Rows.FnExactTermClassesSaid := over
#print axioms proved

end Go.Proofs.Ytcpkmnlhenbnlaa.lawFnExactTermClasses
