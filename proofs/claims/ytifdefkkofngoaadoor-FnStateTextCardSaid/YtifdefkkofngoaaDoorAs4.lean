/- Contracts of joined lists, of copies and conjunctions of assertions, in the program and in the reference. Conditions: the lengths are far from Go's bounds. -/
import Derived.Test.YtifdefkkofngoaaDoorAs3
namespace Go.Proofs.YtifdefkkofngoaaDoor
open Go.RowKit
set_option linter.unusedVariables false

/-- A row made with room, in which nothing lies yet. -/
theorem own_made (w : World) (E sz n : Nat) (cs : Array Value) (h : cs.size = n * sz) (hn : n ≤ maxLen) {lo : Nat} (hlo : lo ≤ w.heap.size) : (w.alloc (.cells cs E)).ownsRow lo E sz (.slice (some ⟨w.heap.size, 0, none⟩) 0 n) 0 [] :=
  ⟨by simp, .inr ⟨w.heap.size, n, cs, rfl, hlo, heap_alloc_new w _, Nat.zero_le _, hn, h, by simp⟩⟩
theorem ofacts_of {w : World} {lo n : Nat} {v : Value} {l : List Pl.Fct} (hn : n = l.length) (h : w.ownsRow lo 78 3 v n (l.flatMap fcells)) : OFacts w lo v l := by subst hn; exact h
theorem oatoms_of {w : World} {lo n : Nat} {v : Value} {l : List Pl.Atm} (hn : n = l.length) (h : w.ownsRow lo 82 3 v n (l.flatMap xcells)) : OAtoms w lo v l := by subst hn; exact h

theorem cell_far2 {w : World} {g i k : Nat} {x y u : Value} (hne : g ≠ i) (h : w.cell? ⟨g, k, none⟩ = some u) : ((w.setCell ⟨i, 0, none⟩ x).setCell ⟨i, 1, none⟩ y).cell? ⟨g, k, none⟩ = some u := by
  rw [World.cell?_setCell_other _ _ _ _ (fun e => hne (by injection e with e _ _; exact e.symm)), World.cell?_setCell_other _ _ _ _ (fun e => hne (by injection e with e _ _; exact e.symm))]; exact h

set_option maxHeartbeats 4000000 in
theorem l3Star_c (A B A9 B9 : Option Addr) (c d c9 d9 : Nat) (s t : Pl.Asr) (w : World) (hS : Asrs w A B s) (hT : Asrs w A9 B9 t) (h1 : s.f.length ≤ 4194304) (h2 : s.a.length ≤ 4194304) (h3 : t.f.length ≤ 4194304) (h4 : t.a.length ≤ 4194304) :
    Calls Tryd.prog 133 #[asval A B c d s, asval A9 B9 c9 d9 t] w fun e w' => ∃ A' B' c' d', e = .returned (asval A' B' c' d' (Pl.join s t)) ∧ OAs w' w.heap.size A' B' c' d' (Pl.join s t) ∧ Grow w w' := by
  obtain ⟨i0, hi, hz0, hz1, hz2⟩ := info_parts fact_info
  obtain ⟨j0, hj, hy0, hy1, hy2⟩ := info_parts atom_info
  obtain ⟨v, h⟩ := s
  obtain ⟨v9, h9⟩ := t
  have IA := (show Facts w A v from hS.v).cells
  have IB := (show Atoms w B h from hS.h).cells
  have IC := (show Facts w A9 v9 from hT.v).cells
  have ID := (show Atoms w B9 h9 from hT.h).cells
  replace h1 : v.length ≤ 4194304 := h1
  replace h2 : h.length ≤ 4194304 := h2
  replace h3 : v9.length ≤ 4194304 := h3
  replace h4 : h9.length ≤ 4194304 := h4
  clear hS hT
  go_enter Tryd.func133, Tryd.ntmps133
  go_wp2_with fail
  have y1 := Box2.new w 46 (.slice A v.length c) (.slice B h.length d)
  have y2 := Box2.new (w.alloc (.cells #[.slice A v.length c, .slice B h.length d] 46)) 46 (.slice A9 v9.length c9) (.slice B9 h9.length d9)
  have y3 := Box2.new ((w.alloc (.cells #[.slice A v.length c, .slice B h.length d] 46)).alloc (.cells #[.slice A9 v9.length c9, .slice B9 h9.length d9] 46)) 46 (.slice none 0 0) (.slice none 0 0)
  have hG : Grow w (((w.alloc (.cells #[.slice A v.length c, .slice B h.length d] 46)).alloc (.cells #[.slice A9 v9.length c9, .slice B9 h9.length d9] 46)).alloc (.cells #[.slice none 0 0, .slice none 0 0] 46)) := (by repeat (first | exact Grow.refl _ | assumption | refine Grow.alloc ?_ _ | refine Grow.drew ?_ | refine Grow.drewN ?_ _ | refine Grow.trans ?_ (by assumption) | refine Grow.below ?_ (by assumption) (by first | exact Nat.le_refl _ | omega)))
  replace y1 := y1.grow (show Grow _ (((w.alloc (.cells #[.slice A v.length c, .slice B h.length d] 46)).alloc (.cells #[.slice A9 v9.length c9, .slice B9 h9.length d9] 46)).alloc (.cells #[.slice none 0 0, .slice none 0 0] 46)) from (by repeat (first | exact Grow.refl _ | assumption | refine Grow.alloc ?_ _ | refine Grow.drew ?_ | refine Grow.drewN ?_ _ | refine Grow.trans ?_ (by assumption) | refine Grow.below ?_ (by assumption) (by first | exact Nat.le_refl _ | omega))))
  replace y2 := y2.grow (show Grow _ (((w.alloc (.cells #[.slice A v.length c, .slice B h.length d] 46)).alloc (.cells #[.slice A9 v9.length c9, .slice B9 h9.length d9] 46)).alloc (.cells #[.slice none 0 0, .slice none 0 0] 46)) from Grow.alloc (Grow.refl _) _)
  have hsz : (((w.alloc (.cells #[.slice A v.length c, .slice B h.length d] 46)).alloc (.cells #[.slice A9 v9.length c9, .slice B9 h9.length d9] 46)).alloc (.cells #[.slice none 0 0, .slice none 0 0] 46)).heap.size = w.heap.size + 1 + 1 + 1 := by simp
  simp only [World.size_alloc] at y2 y3
  generalize ((w.alloc (.cells #[.slice A v.length c, .slice B h.length d] 46)).alloc (.cells #[.slice A9 v9.length c9, .slice B9 h9.length d9] 46)).alloc (.cells #[.slice none 0 0, .slice none 0 0] 46) = w0 at *
  have HSZ := Lib.hid hsz
  obtain ⟨k0, k1, _, _⟩ := y1.facts
  obtain ⟨q0, q1, _, _⟩ := y2.facts
  have hlt0 : w.heap.size < w0.heap.size := y1.lt
  have hlt1 : w.heap.size + 1 < w0.heap.size := y2.lt
  have hlt2 : w.heap.size + 1 + 1 < w0.heap.size := y3.lt
  clear hsz
  replace IA := IA.grow hG
  replace IB := IB.grow hG
  replace IC := IC.grow hG
  replace ID := ID.grow hG
  go_region_held3 (fun W => W.cell? ⟨w.heap.size, 0, none⟩ = some (.slice A v.length c) ∧ W.cell? ⟨w.heap.size, 1, none⟩ = some (.slice B h.length d) ∧ W.cell? ⟨w.heap.size + 1, 0, none⟩ = some (.slice A9 v9.length c9) ∧ W.cell? ⟨w.heap.size + 1, 1, none⟩ = some (.slice B9 h9.length d9))
    (first
      | (go_keep; done)
      | (refine ⟨?_, ?_, ?_, ?_⟩ <;> first | (go_keep; done) | (go_split_ands; exact cell_far2 (by omega) (by assumption)))
      | (go_split_ands; exact ⟨(hb6.cell hlt0).trans (by assumption), (hb6.cell hlt0).trans (by assumption), (hb6.cell hlt1).trans (by assumption), (hb6.cell hlt1).trans (by assumption)⟩)
      | (go_split_ands; exact ⟨(hb5.cell hlt0).trans (by assumption), (hb5.cell hlt0).trans (by assumption), (hb5.cell hlt1).trans (by assumption), (hb5.cell hlt1).trans (by assumption)⟩)
      | (go_split_ands; exact ⟨(hb4.cell hlt0).trans (by assumption), (hb4.cell hlt0).trans (by assumption), (hb4.cell hlt1).trans (by assumption), (hb4.cell hlt1).trans (by assumption)⟩)
      | (go_split_ands; exact ⟨(hb3.cell hlt0).trans (by assumption), (hb3.cell hlt0).trans (by assumption), (hb3.cell hlt1).trans (by assumption), (hb3.cell hlt1).trans (by assumption)⟩))
    (first
      | (refine step_append_src _ (by rfl) (.tmp 5) (.tmp 7) 43 (by rfl) w0.heap.size 78 i0 _ 3 24 Tryd.underlying43 hi hz0 hz1 hz2 rfl (by omega) _ 0 [] (by rfl) (own_empty (by first | exact heap_alloc_new _ _ | exact heap_two _ _ _ | exact heap_snd _ _ _) (by first | omega | exact Grow.le (by repeat (first | exact Grow.refl _ | assumption | refine Grow.alloc ?_ _ | refine Grow.drew ?_ | refine Grow.drewN ?_ _ | refine Grow.trans ?_ (by assumption) | refine Grow.below ?_ (by assumption) (by first | exact Nat.le_refl _ | omega))))) A v.length c (v.flatMap fcells) (by rfl) (fcells_len v) (IA.grow (by repeat (first | exact Grow.refl _ | assumption | refine Grow.alloc ?_ _ | refine Grow.drew ?_ | refine Grow.drewN ?_ _ | refine Grow.trans ?_ (by assumption) | refine Grow.below ?_ (by assumption) (by first | exact Nat.le_refl _ | omega)))) (fcellsL_one v) (by unfold maxLen; omega) (by omega) (Grow.le (by repeat (first | exact Grow.refl _ | assumption | refine Grow.alloc ?_ _ | refine Grow.drew ?_ | refine Grow.drewN ?_ _ | refine Grow.trans ?_ (by assumption) | refine Grow.below ?_ (by assumption) (by first | exact Nat.le_refl _ | omega)))) v.length (by omega) (v.flatMap fcells) (by simp) ?_; intro A3 c3 w3 ho3 hgr3 hat3 hb3; first | (have eB : w3.heap[w0.heap.size]? = some (.cells #[] 82 (0, 0)) := (hgr3.block w0.heap.size (by simp; omega) (by simp [Value.ownBlock])).trans (heap_two _ _ _)) | (have eB : w3.heap[w0.heap.size + 1]? = some (.cells #[] 82 (0, 0)) := (hgr3.block (w0.heap.size + 1) (by simp) (by simp [Value.ownBlock])).trans (heap_snd _ _ _)) | skip)
      | (refine step_append_src _ (by rfl) (.tmp 8) (.tmp 10) 43 (by rfl) w0.heap.size 78 i0 _ 3 24 Tryd.underlying43 hi hz0 hz1 hz2 rfl (by omega) _ v.length (v.flatMap fcells) (by rfl) (own_grow ho3 (by repeat (first | exact Grow.refl _ | assumption | refine Grow.alloc ?_ _ | refine Grow.drew ?_ | refine Grow.drewN ?_ _ | refine Grow.trans ?_ (by assumption) | refine Grow.below ?_ (by assumption) (by first | exact Nat.le_refl _ | omega)))) A9 v9.length c9 (v9.flatMap fcells) (by rfl) (fcells_len v9) (IC.grow (by repeat (first | exact Grow.refl _ | assumption | refine Grow.alloc ?_ _ | refine Grow.drew ?_ | refine Grow.drewN ?_ _ | refine Grow.trans ?_ (by assumption) | refine Grow.below ?_ (by assumption) (by first | exact Nat.le_refl _ | omega)))) (fcellsL_one v9) (by unfold maxLen; omega) (by omega) (Grow.le (by repeat (first | exact Grow.refl _ | assumption | refine Grow.alloc ?_ _ | refine Grow.drew ?_ | refine Grow.drewN ?_ _ | refine Grow.trans ?_ (by assumption) | refine Grow.below ?_ (by assumption) (by first | exact Nat.le_refl _ | omega)))) (v.length + v9.length) (by omega) ((v ++ v9).flatMap fcells) (by rw [List.flatMap_append]) ?_; intro A4 c4 w4 ho4 hgr4 hat4 hb4; have hs3 := hb3.size; simp only [World.size_alloc, World.size_drew] at hs3; first | (replace eB := (hgr4.block w0.heap.size (by omega) (by rcases hat3 with e1 | e1 <;> (rw [e1]; simp [Value.ownBlock]) <;> omega)).trans eB) | (replace eB := (hgr4.block (w0.heap.size + 1) (by omega) (by rcases hat3 with e1 | e1 <;> (rw [e1]; simp [Value.ownBlock]) <;> omega)).trans eB) | (have eB := (hgr4.block w3.heap.size (by simp) (fun e => by have := (own_blk ho3 _ e.symm).2; omega)).trans (heap_alloc_new _ _)) | skip)
      | (refine step_append_src _ (by rfl) (.tmp 12) (.tmp 14) 44 (by rfl) w0.heap.size 82 j0 _ 3 24 Tryd.underlying44 hj hy0 hy1 hy2 rfl (by omega) _ 0 [] (by rfl) (own_empty (by first | exact heap_alloc_new _ _ | exact eB) (by first | omega | exact Grow.le (by repeat (first | exact Grow.refl _ | assumption | refine Grow.alloc ?_ _ | refine Grow.drew ?_ | refine Grow.drewN ?_ _ | refine Grow.trans ?_ (by assumption) | refine Grow.below ?_ (by assumption) (by first | exact Nat.le_refl _ | omega))))) B h.length d (h.flatMap xcells) (by rfl) (xcells_len h) (IB.grow (by repeat (first | exact Grow.refl _ | assumption | refine Grow.alloc ?_ _ | refine Grow.drew ?_ | refine Grow.drewN ?_ _ | refine Grow.trans ?_ (by assumption) | refine Grow.below ?_ (by assumption) (by first | exact Nat.le_refl _ | omega)))) (xcellsL_one h) (by unfold maxLen; omega) (by omega) (Grow.le (by repeat (first | exact Grow.refl _ | assumption | refine Grow.alloc ?_ _ | refine Grow.drew ?_ | refine Grow.drewN ?_ _ | refine Grow.trans ?_ (by assumption) | refine Grow.below ?_ (by assumption) (by first | exact Nat.le_refl _ | omega)))) h.length (by omega) (h.flatMap xcells) (by simp) ?_; intro A5 c5 w5 ho5 hgr5 hat5 hb5)
      | (refine step_append_src _ (by rfl) (.tmp 15) (.tmp 17) 44 (by rfl) w0.heap.size 82 j0 _ 3 24 Tryd.underlying44 hj hy0 hy1 hy2 rfl (by omega) _ h.length (h.flatMap xcells) (by rfl) (own_grow ho5 (by repeat (first | exact Grow.refl _ | assumption | refine Grow.alloc ?_ _ | refine Grow.drew ?_ | refine Grow.drewN ?_ _ | refine Grow.trans ?_ (by assumption) | refine Grow.below ?_ (by assumption) (by first | exact Nat.le_refl _ | omega)))) B9 h9.length d9 (h9.flatMap xcells) (by rfl) (xcells_len h9) (ID.grow (by repeat (first | exact Grow.refl _ | assumption | refine Grow.alloc ?_ _ | refine Grow.drew ?_ | refine Grow.drewN ?_ _ | refine Grow.trans ?_ (by assumption) | refine Grow.below ?_ (by assumption) (by first | exact Nat.le_refl _ | omega)))) (xcellsL_one h9) (by unfold maxLen; omega) (by omega) (Grow.le (by repeat (first | exact Grow.refl _ | assumption | refine Grow.alloc ?_ _ | refine Grow.drew ?_ | refine Grow.drewN ?_ _ | refine Grow.trans ?_ (by assumption) | refine Grow.below ?_ (by assumption) (by first | exact Nat.le_refl _ | omega)))) (h.length + h9.length) (by omega) ((h ++ h9).flatMap xcells) (by rw [List.flatMap_append]) ?_; intro A6 c6 w6 ho6 hgr6 hat6 hb6; obtain ⟨j0, j1, e0, e1⟩ := (y3.grow (show Grow _ w6 from (by repeat (first | exact Grow.refl _ | assumption | refine Grow.alloc ?_ _ | refine Grow.drew ?_ | refine Grow.drewN ?_ _ | refine Grow.trans ?_ (by assumption) | refine Grow.below ?_ (by assumption) (by first | exact Nat.le_refl _ | omega))))).facts))
  all_goals
    have s3 := hb3.size
    have s4 := hb4.size
    have s5 := hb5.size
    have s6 := hb6.size
    simp only [World.size_alloc, World.size_drew] at s3 s4 s5 s6
    have hz := HSZ.out
    have hG6 : Grow w0 w6 := (by repeat (first | exact Grow.refl _ | assumption | refine Grow.alloc ?_ _ | refine Grow.drew ?_ | refine Grow.drewN ?_ _ | refine Grow.trans ?_ (by assumption) | refine Grow.below ?_ (by assumption) (by first | exact Nat.le_refl _ | omega)))
    have b3 := own_blk ho3
    have b4 := own_blk ho4
    have b6 := own_blk ho6
    generalize hx3 : (Value.slice A3 v.length c3).ownBlock = a3 at hat3 hat4 hgr4 b3
    have p3 : a3.getD 0 < w3.heap.size := by rcases hat3 with e | e <;> (have := b3 _ e; rw [e]; exact this.2)
    clear b3
    generalize hx4 : (Value.slice A4 (v.length + v9.length) c4).ownBlock = a4 at hat4 b4
    generalize hx5 : (Value.slice A5 h.length c5).ownBlock = a5 at hat5 hat6 hgr6
    generalize hx6 : (Value.slice A6 (h.length + h9.length) c6).ownBlock = a6 at hat6 b6
    have q3 := hat3.imp (congrArg (fun o : Option Nat => o.getD 0)) (congrArg (fun o : Option Nat => o.getD 0))
    have q4 := hat4.imp (congrArg (fun o : Option Nat => o.getD 0)) (congrArg (fun o : Option Nat => o.getD 0))
    have q5 := hat5.imp (congrArg (fun o : Option Nat => o.getD 0)) (congrArg (fun o : Option Nat => o.getD 0))
    have q6 := hat6.imp (congrArg (fun o : Option Nat => o.getD 0)) (congrArg (fun o : Option Nat => o.getD 0))
    simp [Value.ownBlock] at q3 q4 q5 q6
    have o4 : w5.ownsRow w0.heap.size 78 3 (.slice A4 (v.length + v9.length) c4) (v.length + v9.length) ((v ++ v9).flatMap fcells) := own_kept (own_grow ho4 (by repeat (first | exact Grow.refl _ | assumption | refine Grow.alloc ?_ _ | refine Grow.drew ?_ | refine Grow.drewN ?_ _ | refine Grow.trans ?_ (by assumption) | refine Grow.below ?_ (by assumption) (by first | exact Nat.le_refl _ | omega)))) hgr5 (fun k hk e => by
      rw [hx4] at hk
      have e0 := b4 k hk
      have e1 := congrArg (fun o : Option Nat => o.getD 0) hk
      have e2 := congrArg (fun o : Option Nat => o.getD 0) e
      simp [Value.ownBlock] at e1 e2
      omega)
    replace o4 : w6.ownsRow w0.heap.size 78 3 (.slice A4 (v.length + v9.length) c4) (v.length + v9.length) ((v ++ v9).flatMap fcells) := own_kept o4 hgr6 (fun k hk e => by
      rw [hx4] at hk
      have e0 := b4 k hk
      have e1 := congrArg (fun o : Option Nat => o.getD 0) hk
      have e2 := congrArg (fun o : Option Nat => o.getD 0) e
      simp at e1 e2
      omega)
    have hap : ∀ k, a4 = some k → a6 ≠ some k := fun k hk e => by
      have e0 := b4 k hk
      have e1 := congrArg (fun o : Option Nat => o.getD 0) hk
      have e2 := congrArg (fun o : Option Nat => o.getD 0) e
      simp at e1 e2
      omega
    have hGw := hG.trans hG6
    clear q3 q4 q5 q6 hat3 hat4 hat5 hat6 hgr3 hgr4 hgr5 hgr6 hb3 hb4 hb5 hb6 ho3 ho4 ho5 IA IB IC ID hG6 s3 s4
    go_wp2
    refine bodyPost_ret (v := .agg #[.slice A4 (v.length + v9.length) c4, .slice A6 (h.length + h9.length) c6]) (by simp [results, Tryd.results133, go_sem, j0, j1]) rfl ⟨A4, A6, c4, c6, by simp [Pl.join], ⟨?_, ?_, ?_⟩, ?_⟩
    · show World.ownsRow _ _ _ _ (.slice _ (v ++ v9).length _) (v ++ v9).length ((v ++ v9).flatMap fcells)
      rw [List.length_append]
      exact own_lo (own_far (own_far o4 (fun k hk => by have := b4 k (by rw [← hx4]; exact hk); show w.heap.size + 1 + 1 ≠ k; omega) _) (fun k hk => by have := b4 k (by rw [← hx4]; exact hk); show w.heap.size + 1 + 1 ≠ k; omega) _) (by omega)
    · show World.ownsRow _ _ _ _ (.slice _ (h ++ h9).length _) (h ++ h9).length ((h ++ h9).flatMap xcells)
      rw [List.length_append]
      exact own_lo (own_far (own_far ho6 (fun k hk => by have := b6 k (by rw [← hx6]; exact hk); show w.heap.size + 1 + 1 ≠ k; omega) _) (fun k hk => by have := b6 k (by rw [← hx6]; exact hk); show w.heap.size + 1 + 1 ≠ k; omega) _) (by omega)
    · intro k h1 h2
      exact hap k (by rw [← hx4]; simpa [Pl.join] using h1) (by rw [← hx6]; simpa [Pl.join] using h2)
    · exact (hGw.setCell (by show w.heap.size ≤ w.heap.size + 1 + 1; omega) _).setCell (by show w.heap.size ≤ w.heap.size + 1 + 1; omega) _

end Go.Proofs.YtifdefkkofngoaaDoor
