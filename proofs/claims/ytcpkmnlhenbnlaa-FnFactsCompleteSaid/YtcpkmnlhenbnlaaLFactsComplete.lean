/- FnFactsComplete: whatever facts are drawn, facts imply a fact just when they are inconsistent with its negation. No conditions. -/
import Derived.Test.YtcpkmnlhenbnlaaFactI
import Derived.Test.YtcpkmnlhenbnlaaFactV
import Derived.Test.YtcpkmnlhenbnlaaDrawH
import Derived.Test.YtcpkmnlhenbnlaaRowAid
namespace Go.Proofs.Ytcpkmnlhenbnlaa.lawFnFactsComplete
open Go.ChangeShapes Go.WideShapes Go.ChangeAt Go.RowKit Go.Joins Go.Deep
open Go.ChangeMaps (open_string shut_string)
set_option linter.unusedVariables false

set_option maxHeartbeats 2000000 in
theorem walk (A : Option Addr) (c n : Nat) (w : World) (hA : Bytes w A n) (hn : n ≤ 9223372036854775807) (hnc : n ≤ c) :
    Calls Try.prog 11 #[.slice A n c] w fun e w' => e = .returned (.bool true) ∧ Grow w w' := by
  by_cases hn20 : (1048576 : Int) < (n : Int)
  · go_enter Try.func11, Try.ntmps11
    go_wp2
    go_ret
    exact ⟨rfl, (by repeat (first | exact Grow.refl _ | assumption | refine Grow.alloc ?_ _ | refine Grow.drew ?_ | refine Grow.drewN ?_ _ | refine Grow.trans ?_ (by assumption) | refine Grow.below ?_ (by assumption) (by first | exact Nat.le_refl _ | omega)))⟩
  go_enter Try.func11, Try.ntmps11
  go_wp2_with fail
  refine (DrawFactsImply_c A n c _ hA hn hnc).mono ?_
  rintro e w1 ⟨l, A1, c1, f, hl, rfl, o1, g1⟩
  obtain ⟨x, a, b⟩ := f
  have F1 := OFacts.facts rfl o1
  clear hA hnc o1
  go_wp2_with fail
  refine (FactsImply_c _ _ l ⟨x, a, b⟩ _ (F1.grow (by repeat (first | exact Grow.refl _ | assumption | refine Grow.alloc ?_ _ | refine Grow.drew ?_ | refine Grow.drewN ?_ _ | refine Grow.trans ?_ (by assumption) | refine Grow.below ?_ (by assumption) (by first | exact Nat.le_refl _ | omega)))) (by omega)).mono ?_
  rintro e w2 ⟨rfl, g2⟩
  obtain ⟨q0, q1, q2⟩ := box3 g2
  go_wp2_with fail
  refine (sFactsImply_c _ _ l ⟨x, a, b⟩ _ (F1.grow (by repeat (first | exact Grow.refl _ | assumption | refine Grow.alloc ?_ _ | refine Grow.drew ?_ | refine Grow.drewN ?_ _ | refine Grow.trans ?_ (by assumption) | refine Grow.below ?_ (by assumption) (by first | exact Nat.le_refl _ | omega)))) (by omega)).mono ?_
  rintro e w3 ⟨rfl, g3⟩
  have p0 := g3.cell q0
  have p1 := g3.cell q1
  have p2 := g3.cell q2
  clear q0 q1 q2
  go_wp2_with fail
  refine (FactsValid_c _ _ l _ (F1.grow (by repeat (first | exact Grow.refl _ | assumption | refine Grow.alloc ?_ _ | refine Grow.drew ?_ | refine Grow.drewN ?_ _ | refine Grow.trans ?_ (by assumption) | refine Grow.below ?_ (by assumption) (by first | exact Nat.le_refl _ | omega)))) (by omega)).mono ?_
  rintro e w4 ⟨rfl, g4⟩
  have r0 := g4.cell p0
  have r1 := g4.cell p1
  have r2 := g4.cell p2
  have F4 : Facts w4 A1 l := F1.grow (by repeat (first | exact Grow.refl _ | assumption | refine Grow.alloc ?_ _ | refine Grow.drew ?_ | refine Grow.drewN ?_ _ | refine Grow.trans ?_ (by assumption) | refine Grow.below ?_ (by assumption) (by first | exact Nat.le_refl _ | omega)))
  have G4 : Grow w w4 := (by repeat (first | exact Grow.refl _ | assumption | refine Grow.alloc ?_ _ | refine Grow.drew ?_ | refine Grow.drewN ?_ _ | refine Grow.trans ?_ (by assumption) | refine Grow.below ?_ (by assumption) (by first | exact Nat.le_refl _ | omega)))
  have hs1 : w1.heap.size < w4.heap.size := by have h1 := g2.size; have h2 := g3.size; have h3 := g4.size; simp at h1; omega
  clear p0 p1 p2 g1 g2 g3 g4 F1
  cases hf : Pl.fsv l with
  | false =>
    go_wp2_with fail
    refine (sFactsImply_c _ _ l ⟨x, a, b⟩ _ F4 (by omega)).mono ?_
    rintro e w5 ⟨rfl, g5⟩
    go_wp2_with fail
    go_ret
    exact ⟨by simp, (by repeat (first | exact Grow.refl _ | assumption | refine Grow.alloc ?_ _ | refine Grow.drew ?_ | refine Grow.drewN ?_ _ | refine Grow.trans ?_ (by assumption) | refine Grow.below ?_ (by assumption) (by first | exact Nat.le_refl _ | omega)))⟩
  | true =>
    have HF := Lib.hid hf
    have hl12 : l.length ≤ 12 := ((Pl.fsv_iff l).1 hf).1
    clear hf
    go_wp2_with fail
    refine (FactValid_c ⟨x, a, b⟩ _).mono ?_
    rintro e w5 ⟨rfl, g5⟩
    have s0 := g5.cell r0
    have s1 := g5.cell r1
    have s2 := g5.cell r2
    have F5 := F4.grow g5
    have G5 := G4.trans g5
    have hs5 : w1.heap.size < w5.heap.size := by have := g5.size; omega
    clear r0 r1 r2 F4 G4 g5
    cases hv : Pl.fv ⟨x, a, b⟩ with
    | false =>
      go_wp2_with fail
      refine (sFactsImply_c _ _ l ⟨x, a, b⟩ _ F5 (by omega)).mono ?_
      rintro e w6 ⟨rfl, g6⟩
      go_wp2_with fail
      go_ret
      exact ⟨by simp, (by repeat (first | exact Grow.refl _ | assumption | refine Grow.alloc ?_ _ | refine Grow.drew ?_ | refine Grow.drewN ?_ _ | refine Grow.trans ?_ (by assumption) | refine Grow.below ?_ (by assumption) (by first | exact Nat.le_refl _ | omega)))⟩
    | true =>
      have HV := Lib.hid hv
      clear hv
      by_cases h12 : (12 : Int) ≤ (l.length : Int)
      · go_wp2_with fail
        refine (sFactsImply_c _ _ l ⟨x, a, b⟩ _ F5 (by omega)).mono ?_
        rintro e w6 ⟨rfl, g6⟩
        go_wp2_with fail
        go_ret
        exact ⟨by simp, (by repeat (first | exact Grow.refl _ | assumption | refine Grow.alloc ?_ _ | refine Grow.drew ?_ | refine Grow.drewN ?_ _ | refine Grow.trans ?_ (by assumption) | refine Grow.below ?_ (by assumption) (by first | exact Nat.le_refl _ | omega)))⟩
      · have HC := Lib.hid (Pl.complete (l := l) (f := ⟨x, a, b⟩) (by omega) HF.out HV.out)
        obtain ⟨i0, hi, hz0, hz1, hz2⟩ := info_parts fact_info
        have hA2 := F5.cells
        go_wp2_with fail
        go_region_held3 (fun W => W.cell? ⟨w1.heap.size, 0, none⟩ = some (.bool x) ∧ W.cell? ⟨w1.heap.size, 1, none⟩ = some (.int .i64 a) ∧ W.cell? ⟨w1.heap.size, 2, none⟩ = some (.int .i64 b))
          (first
            | go_keep
            | (go_split_ands; exact ⟨(hb2.cell hs5).trans (by assumption), (hb2.cell hs5).trans (by assumption), (hb2.cell hs5).trans (by assumption)⟩)
            | (go_split_ands; exact ⟨(hb1.cell hs5).trans (by assumption), (hb1.cell hs5).trans (by assumption), (hb1.cell hs5).trans (by assumption)⟩))
          (first
            | (refine step_append_src _ (by rfl) (.tmp 43) (.tmp 44) 25 (by rfl) w5.heap.size 37 i0 _ 3 24 Try.underlying25 hi hz0 hz1 hz2 rfl (by omega) _ 0 [] (by rfl) (own_empty (by first | exact heap_alloc_new _ _ | exact heap_two _ _ _ | exact heap_snd _ _ _) (by omega)) A1 l.length c1 (l.flatMap fcells) (by rfl) (fcells_len l) (hA2.grow (by repeat (first | exact Grow.refl _ | assumption | refine Grow.alloc ?_ _ | refine Grow.drew ?_ | refine Grow.drewN ?_ _ | refine Grow.trans ?_ (by assumption) | refine Grow.below ?_ (by assumption) (by first | exact Nat.le_refl _ | omega)))) (fcellsL_one l) (by unfold maxLen; omega) (by omega) (Grow.le (by repeat (first | exact Grow.refl _ | assumption | refine Grow.alloc ?_ _ | refine Grow.drew ?_ | refine Grow.drewN ?_ _ | refine Grow.trans ?_ (by assumption) | refine Grow.below ?_ (by assumption) (by first | exact Nat.le_refl _ | omega)))) l.length (by omega) (l.flatMap fcells) (by simp) ?_; intro A7 c7 w7 ho1 hgr1 hat1 hb1)
            | (refine step_append_src _ (by rfl) (.tmp 45) (.tmp 54) 25 (by rfl) w5.heap.size 37 i0 _ 3 24 Try.underlying25 hi hz0 hz1 hz2 rfl (by omega) _ l.length (l.flatMap fcells) (by rfl) (own_grow ho1 (by repeat (first | exact Grow.refl _ | assumption | refine Grow.alloc ?_ _ | refine Grow.drew ?_ | refine Grow.drewN ?_ _ | refine Grow.trans ?_ (by assumption) | refine Grow.below ?_ (by assumption) (by first | exact Nat.le_refl _ | omega)))) _ 1 1 [.bool (!x), .int .i64 a, .int .i64 b] (by rfl) (by rfl) (by first | exact Cells.block (heap_alloc_new _ _) | exact Cells.block ((hgr1.block (w5.heap.size + 1) (by simp) (by simp [Value.ownBlock])).trans (heap_snd _ _ _)) | exact Cells.block ((hgr1.block w5.heap.size (by simp; omega) (by simp [Value.ownBlock])).trans (heap_two _ _ _))) (fcells_one ⟨!x, a, b⟩) (by unfold maxLen; omega) (by omega) (Grow.le (by repeat (first | exact Grow.refl _ | assumption | refine Grow.alloc ?_ _ | refine Grow.drew ?_ | refine Grow.drewN ?_ _ | refine Grow.trans ?_ (by assumption) | refine Grow.below ?_ (by assumption) (by first | exact Nat.le_refl _ | omega)))) (l.length + 1) (by omega) ((l ++ [Pl.neg ⟨x, a, b⟩]).flatMap fcells) (by rw [List.flatMap_append]; rfl) ?_; intro A8 c8 w8 ho2 hgr2 hat2 hb2))
        all_goals
          have hgw : Grow w5 w8 := (by repeat (first | exact Grow.refl _ | assumption | refine Grow.alloc ?_ _ | refine Grow.drew ?_ | refine Grow.drewN ?_ _ | refine Grow.trans ?_ (by assumption) | refine Grow.below ?_ (by assumption) (by first | exact Nat.le_refl _ | omega)))
          have G8 := G5.trans hgw
          clear hat1 hat2 hgr1 hgr2 hb1 hb2 ho1 hgw
          have hF : Facts w8 A8 (l ++ [Pl.neg ⟨x, a, b⟩]) := OFacts.facts (lo := w5.heap.size) (n := l.length + 1) (c := c8) (by simp) (by show World.ownsRow _ _ _ _ _ (l ++ [Pl.neg ⟨x, a, b⟩]).length _; rw [List.length_append]; exact ho2)
          have hcc := FactsConsistent_c A8 c8 (l ++ [Pl.neg ⟨x, a, b⟩]) w8 hF (by simp; omega)
          rw [List.length_append] at hcc
          have HCC := Lib.hid hcc
          clear hcc hF ho2
          go_wp2_with fail
          refine HCC.out.mono ?_
          rintro e w9 ⟨rfl, g9⟩
          have G9 := G8.trans g9
          rw [HC.out]
          go_wp2_with fail
          go_ret
          exact ⟨by simp, G9⟩

set_option maxRecDepth 100000 in
theorem lifted (os : Os) (started : os.Started) (H : Type) (enc : TypeId × Value → H) :
    ReturnsInHanded {} Try.checked os 11 .any (Rows.fnFactsCompleteSpec.pre6 enc Try.prog Try.f11 Rows.fnFactsCompleteRow.domain false) (Rows.fnFactsCompleteSpec.post enc Try.prog Try.f11 false true false false) := by
  refine returnsInHanded_of_change (C := Try.checked) own_knob started (by kernel_rfl) Try.func11
    (ChangeSpec.witness6 (enc := enc) (C := Try.checked) false ⟨#[], #[.slice none 0 0], []⟩ 8 (by kernel_rfl) (by kernel_rfl) (by kernel_rfl) (by kernel_rfl)) ?_
  intro W base args ds gs before hval0 hW hcnd _
  have hval : ∀ (j : Nat) t v, Try.f11.params[j]? = some t → args[j]? = some v → Value.okWide Try.prog W .any base t v := hval0
  have hW' := hW
  obtain ⟨p, q, hA0, hV, rfl, hfz, hnd⟩ := hW
  have hA : DataW.TrodAll enc Try.prog W 0 (fun _ => true) true Try.f11.params.toList args.toList ds p := hA0
  rw [Try.params11] at hA hval
  obtain ⟨v0, vs0, d0, ds0, p0, q0, hargs, rfl, rfl, h0, r0⟩ := trodAll_cons hA
  obtain ⟨rfl, rfl, rfl⟩ := trodAll_nil r0
  obtain rfl : args = #[v0] := by cases args; simp_all
  obtain ⟨rfl, rfl⟩ := trodVars_none hV
  have k0 := h0
  have lt0 : ∀ x ∈ p0, x.block < W.heap.size := by obtain ⟨m, hm⟩ := k0; exact DataW.trod_lt m _ _ _ hm
  obtain ⟨a0, len0, cap0, rfl⟩ := okWide_slice Try.underlying43 (hval 0 43 v0 rfl rfl)
  obtain ⟨hb0, w0, hc0⟩ : len0 ≤ 9223372036854775807 ∧ Bytes W a0 len0 ∧ len0 ≤ cap0 := by
    obtain ⟨fuel, hf⟩ := h0
    exact open_bytesL (by simpa [Value.cells] using hf)
  clear hA0 hval0
  refine (walk a0 cap0 len0 W w0 hb0 hc0).mono fun e W' ⟨he, bel⟩ => ?_
  subst he
  exact ⟨_, rfl, _, _, _, [], _, [], hW', trodAll_mk1 (shut_bool Try.underlying4 _), (trodAll_cons_mk (Below.trod laid_out (by kernel_rfl) (of_decide_eq_true (by kernel_rfl)) k0 bel lt0) trodAll_mk0), rfl, bel.frame _, fun h => by cases h⟩

theorem over : Rows.fnFactsCompleteRow.holds Try.pinned (OpenSpec.ofChange Rows.fnFactsCompleteSpec) :=
  OpenClaim.holds_of_wide 11 Try.f11 rfl rfl rfl rfl rfl rfl rfl ⟨rfl, rfl, rfl, rfl, rfl⟩ rfl rfl rfl rfl rfl (by kernel_rfl) Try.func11 (by kernel_rfl)
    (of_decide_eq_true (by kernel_rfl)) (by unfold Func.isWrapper; first | (rw [if_pos (by decide +kernel)]; kernel_rfl) | (rw [if_neg (by decide +kernel)]; exact ⟨rfl, rfl⟩))
    (fun os started H enc _ => lifted os started H enc)

/-- The statement. -/
theorem proved : Rows.FnFactsCompleteSaid := over
#print axioms proved

end Go.Proofs.Ytcpkmnlhenbnlaa.lawFnFactsComplete
