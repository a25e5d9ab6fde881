/- Contract of the reference FactsImply. Conditions: the length is at most the laws' own bound. -/
import Derived.Test.YtcpkmnlhenbnlaaFactT
import Derived.Test.YtcpkmnlhenbnlaaApp
namespace Go.Proofs.Ytcpkmnlhenbnlaa
open Go.RowKit
set_option linter.unusedVariables false

set_option maxHeartbeats 2000000 in
theorem sFactsImply_c (A : Option Addr) (d : Nat) (l : List Pl.Fct) (f : Pl.Fct) (w : World) (hA : Facts w A l) (hn : l.length ≤ 1048576) :
    Calls Try.prog 26 #[.slice A l.length d, fval f] w fun e w' => e = .returned (.bool (Pl.fimp l f)) ∧ Grow w w' := by
  obtain ⟨x, a, b⟩ := f
  cases hf : Pl.fsv l with
  | false =>
    have HF := Lib.hid hf
    have H := Lib.hid (show Pl.fimp l ⟨x, a, b⟩ = false by unfold Pl.fimp; rw [hf]; rfl)
    clear hf
    go_enter Try.func26, Try.ntmps26
    go_wp2_with (go_at_call 16; refine (sFactsValid_c _ _ l _ (hA.grow (by repeat (first | exact Grow.refl _ | assumption | refine Grow.alloc ?_ _ | refine Grow.drew ?_ | refine Grow.drewN ?_ _ | refine Grow.trans ?_ (by assumption) | refine Grow.below ?_ (by assumption) (by first | exact Nat.le_refl _ | omega)))) (by omega)).mono ?_; rintro e w' ⟨rfl, hg1⟩; rw [HF.out])
    go_ret
    exact ⟨by rw [H.out]; rfl, (by repeat (first | exact Grow.refl _ | assumption | refine Grow.alloc ?_ _ | refine Grow.drew ?_ | refine Grow.drewN ?_ _ | refine Grow.trans ?_ (by assumption) | refine Grow.below ?_ (by assumption) (by first | exact Nat.le_refl _ | omega)))⟩
  | true =>
    have HF := Lib.hid hf
    cases hv : Pl.fv ⟨x, a, b⟩ with
    | false =>
      have HV := Lib.hid hv
      have H := Lib.hid (show Pl.fimp l ⟨x, a, b⟩ = false by unfold Pl.fimp; rw [hf, hv]; rfl)
      clear hf hv
      go_enter Try.func26, Try.ntmps26
      go_wp2_with (first | (go_at_call 16; refine (sFactsValid_c _ _ l _ (hA.grow (by repeat (first | exact Grow.refl _ | assumption | refine Grow.alloc ?_ _ | refine Grow.drew ?_ | refine Grow.drewN ?_ _ | refine Grow.trans ?_ (by assumption) | refine Grow.below ?_ (by assumption) (by first | exact Nat.le_refl _ | omega)))) (by omega)).mono ?_; rintro e w' ⟨rfl, hg1⟩; obtain ⟨q0, q1, q2⟩ := box3 hg1; rw [HF.out]) | (go_at_call 40; refine (sFactValid_c ⟨x, a, b⟩ _).mono ?_; rintro e w1' ⟨rfl, hg1'⟩; rw [HV.out]))
      go_ret
      exact ⟨by rw [H.out]; rfl, (by repeat (first | exact Grow.refl _ | assumption | refine Grow.alloc ?_ _ | refine Grow.drew ?_ | refine Grow.drewN ?_ _ | refine Grow.trans ?_ (by assumption) | refine Grow.below ?_ (by assumption) (by first | exact Nat.le_refl _ | omega)))⟩
    | true =>
      have HV := Lib.hid hv
      have H := Lib.hid (show Pl.fimp l ⟨x, a, b⟩ = !Pl.sep (Pl.cls (l ++ [Pl.neg ⟨x, a, b⟩])) (l ++ [Pl.neg ⟨x, a, b⟩]) by unfold Pl.fimp; rw [hf, hv]; rfl)
      obtain ⟨i0, hi, hz0, hz1, hz2⟩ := info_parts fact_info
      clear hf hv
      go_enter Try.func26, Try.ntmps26
      go_wp2_with (first | (go_at_call 16; refine (sFactsValid_c _ _ l _ (hA.grow (by repeat (first | exact Grow.refl _ | assumption | refine Grow.alloc ?_ _ | refine Grow.drew ?_ | refine Grow.drewN ?_ _ | refine Grow.trans ?_ (by assumption) | refine Grow.below ?_ (by assumption) (by first | exact Nat.le_refl _ | omega)))) (by omega)).mono ?_; rintro e w1 ⟨rfl, hg1⟩; obtain ⟨q0, q1, q2⟩ := box3 hg1; rw [HF.out]) | (go_at_call 40; refine (sFactValid_c ⟨x, a, b⟩ _).mono ?_; rintro e w2 ⟨rfl, hg2⟩; have r0 := hg2.cell q0; have r1 := hg2.cell q1; have r2 := hg2.cell q2; rw [HV.out]))
      clear q0 q1 q2
      have hg0 : Grow w w2 := (by repeat (first | exact Grow.refl _ | assumption | refine Grow.alloc ?_ _ | refine Grow.drew ?_ | refine Grow.drewN ?_ _ | refine Grow.trans ?_ (by assumption) | refine Grow.below ?_ (by assumption) (by first | exact Nat.le_refl _ | omega)))
      have hlt0 : w.heap.size < w2.heap.size := by have := hg2.size; have := hg1.size; simp at this; omega
      clear hg1 hg2
      have hA2 := (hA.grow hg0).cells
      have hsz := hg0.size
      go_region_held3 (fun W => W.cell? ⟨w.heap.size, 0, none⟩ = some (.bool x) ∧ W.cell? ⟨w.heap.size, 1, none⟩ = some (.int .i64 a) ∧ W.cell? ⟨w.heap.size, 2, none⟩ = some (.int .i64 b))
        (first
          | go_keep
          | (go_split_ands; exact ⟨(hb2.cell hlt0).trans (by assumption), (hb2.cell hlt0).trans (by assumption), (hb2.cell hlt0).trans (by assumption)⟩)
          | (go_split_ands; exact ⟨(hb1.cell hlt0).trans (by assumption), (hb1.cell hlt0).trans (by assumption), (hb1.cell hlt0).trans (by assumption)⟩))
        (first
          | (refine step_append_src _ (by rfl) (.tmp 14) (.tmp 15) 25 (by rfl) w2.heap.size 37 i0 _ 3 24 Try.underlying25 hi hz0 hz1 hz2 rfl (by omega) _ 0 [] (by rfl) (own_empty (by first | exact heap_alloc_new _ _ | exact heap_two _ _ _ | exact heap_snd _ _ _) (by omega)) A l.length d (l.flatMap fcells) (by rfl) (fcells_len l) (hA2.grow (by repeat (first | exact Grow.refl _ | assumption | refine Grow.alloc ?_ _ | refine Grow.drew ?_ | refine Grow.drewN ?_ _ | refine Grow.trans ?_ (by assumption) | refine Grow.below ?_ (by assumption) (by first | exact Nat.le_refl _ | omega)))) (fcellsL_one l) (by unfold maxLen; omega) (by omega) (Grow.le (by repeat (first | exact Grow.refl _ | assumption | refine Grow.alloc ?_ _ | refine Grow.drew ?_ | refine Grow.drewN ?_ _ | refine Grow.trans ?_ (by assumption) | refine Grow.below ?_ (by assumption) (by first | exact Nat.le_refl _ | omega)))) l.length (by omega) (l.flatMap fcells) (by simp) ?_; intro A1 c1 w3 ho1 hgr1 hat1 hb1)
          | (refine step_append_src _ (by rfl) (.tmp 16) (.tmp 25) 25 (by rfl) w2.heap.size 37 i0 _ 3 24 Try.underlying25 hi hz0 hz1 hz2 rfl (by omega) _ l.length (l.flatMap fcells) (by rfl) (own_grow ho1 (by repeat (first | exact Grow.refl _ | assumption | refine Grow.alloc ?_ _ | refine Grow.drew ?_ | refine Grow.drewN ?_ _ | refine Grow.trans ?_ (by assumption) | refine Grow.below ?_ (by assumption) (by first | exact Nat.le_refl _ | omega)))) _ 1 1 [.bool (!x), .int .i64 a, .int .i64 b] (by rfl) (by rfl) (by first | exact Cells.block (heap_alloc_new _ _) | exact Cells.block ((hgr1.block (w2.heap.size + 1) (by simp) (by simp [Value.ownBlock])).trans (heap_snd _ _ _)) | exact Cells.block ((hgr1.block w2.heap.size (by simp; omega) (by simp [Value.ownBlock])).trans (heap_two _ _ _))) (fcells_one ⟨!x, a, b⟩) (by unfold maxLen; omega) (by omega) (Grow.le (by repeat (first | exact Grow.refl _ | assumption | refine Grow.alloc ?_ _ | refine Grow.drew ?_ | refine Grow.drewN ?_ _ | refine Grow.trans ?_ (by assumption) | refine Grow.below ?_ (by assumption) (by first | exact Nat.le_refl _ | omega)))) (l.length + 1) (by omega) ((l ++ [Pl.neg ⟨x, a, b⟩]).flatMap fcells) (by rw [List.flatMap_append]; rfl) ?_; intro A2 c2 w4 ho2 hgr2 hat2 hb2))
      all_goals
        have hgw : Grow w w4 := (by repeat (first | exact Grow.refl _ | assumption | refine Grow.alloc ?_ _ | refine Grow.drew ?_ | refine Grow.drewN ?_ _ | refine Grow.trans ?_ (by assumption) | refine Grow.below ?_ (by assumption) (by first | exact Nat.le_refl _ | omega)))
        clear hat1 hat2 hgr1 hgr2 hb1 hb2 ho1
        have hF : Facts w4 A2 (l ++ [Pl.neg ⟨x, a, b⟩]) := OFacts.facts (lo := w2.heap.size) (n := l.length + 1) (c := c2) (by simp) (by show World.ownsRow _ _ _ _ _ (l ++ [Pl.neg ⟨x, a, b⟩]).length _; rw [List.length_append]; exact ho2)
        have hc := l1Split_c A2 c2 (l ++ [Pl.neg ⟨x, a, b⟩]) w4 hF (by simp; omega) (by
          intro f hf
          rcases List.mem_append.1 hf with hf | hf
          · exact ((Pl.fsv_iff l).1 HF.out).2 f hf
          · rw [List.mem_singleton.1 hf]; exact HV.out)
        rw [List.length_append] at hc
        have HCC := Lib.hid hc
        clear hc hF ho2
        go_wp2_with (go_at_call 44; refine HCC.out.mono ?_; rintro e w5 ⟨rfl, hg5⟩)
        go_ret
        exact ⟨by rw [H.out]; rfl, (by repeat (first | exact Grow.refl _ | assumption | refine Grow.alloc ?_ _ | refine Grow.drew ?_ | refine Grow.drewN ?_ _ | refine Grow.trans ?_ (by assumption) | refine Grow.below ?_ (by assumption) (by first | exact Nat.le_refl _ | omega)))⟩

end Go.Proofs.Ytcpkmnlhenbnlaa
