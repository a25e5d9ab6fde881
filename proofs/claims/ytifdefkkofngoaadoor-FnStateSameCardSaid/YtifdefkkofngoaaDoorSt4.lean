/- Contracts of copies of states, in the program and in the reference: new memory that reads the same. Conditions: the lengths are far from Go's bounds. -/
import Derived.Test.YtifdefkkofngoaaDoorSt3
import Derived.Laws.CopyOwn
namespace Go.Proofs.YtifdefkkofngoaaDoor
open Go.RowKit
set_option linter.unusedVariables false

set_option maxHeartbeats 1000000 in
theorem l2Copy_c (A B : Option Addr) (c d : Nat) (s : Pl.St) (w : World) (hS : Sts w A B s) (h1 : s.v.length ≤ 4194304) (h2 : s.h.length ≤ 4194304) :
    Calls Tryd.prog 97 #[sval A B c d s] w fun e w' => ∃ A' B' c' d', e = .returned (sval A' B' c' d' s) ∧ OSt w' w.heap.size A' B' c' d' s ∧ Grow w w' := by
  obtain ⟨i0, hi, hz0, hz1, hz2⟩ := info_parts int_info
  obtain ⟨v, h⟩ := s
  have IA := (show Ints w A v from hS.v).cells
  have IB := (show Ints w B h from hS.h).cells
  replace h1 : v.length ≤ 4194304 := h1
  replace h2 : h.length ≤ 4194304 := h2
  go_enter Tryd.func97, Tryd.ntmps97
  go_wp2_with fail
  have y2 := Box2.new (w.alloc (.cells #[.slice A v.length c, .slice B h.length d] 27)) 27 (.slice none 0 0) (.slice none 0 0)
  have hG : Grow w ((w.alloc (.cells #[.slice A v.length c, .slice B h.length d] 27)).alloc (.cells #[.slice none 0 0, .slice none 0 0] 27)) := (by repeat (first | exact Grow.refl _ | assumption | refine Grow.alloc ?_ _ | refine Grow.drew ?_ | refine Grow.drewN ?_ _ | refine Grow.trans ?_ (by assumption) | refine Grow.below ?_ (by assumption) (by first | exact Nat.le_refl _ | omega)))
  obtain ⟨k0, k1, _, _⟩ := ((Box2.new w 27 (.slice A v.length c) (.slice B h.length d)).grow (show Grow _ ((w.alloc (.cells #[.slice A v.length c, .slice B h.length d] 27)).alloc (.cells #[.slice none 0 0, .slice none 0 0] 27)) from Grow.alloc (Grow.refl _) _)).facts
  have hsz : ((w.alloc (.cells #[.slice A v.length c, .slice B h.length d] 27)).alloc (.cells #[.slice none 0 0, .slice none 0 0] 27)).heap.size = w.heap.size + 1 + 1 := by simp
  simp only [World.size_alloc] at y2
  generalize (w.alloc (.cells #[.slice A v.length c, .slice B h.length d] 27)).alloc (.cells #[.slice none 0 0, .slice none 0 0] 27) = w0 at *
  have hlt0 : w.heap.size < w0.heap.size := by omega
  have HSZ := Lib.hid hsz
  clear hsz
  have JA := IA.grow hG
  have JB := IB.grow hG
  go_region_held3 (fun W => W.cell? ⟨w.heap.size, 0, none⟩ = some (.slice A v.length c) ∧ W.cell? ⟨w.heap.size, 1, none⟩ = some (.slice B h.length d))
    (first
      | go_keep
      | (go_split_ands; exact ⟨(hb2.cell hlt0).trans (by assumption), (hb2.cell hlt0).trans (by assumption)⟩)
      | (go_split_ands; exact ⟨(hb1.cell hlt0).trans (by assumption), (hb1.cell hlt0).trans (by assumption)⟩))
    (first
      | (refine step_append_src _ (by rfl) (.tmp 3) (.tmp 5) 22 (by rfl) w0.heap.size 3 i0 _ 1 8 Tryd.underlying22 hi hz0 hz1 hz2 rfl (by omega) _ 0 [] (by rfl) (own_empty (by first | exact heap_alloc_new _ _ | exact heap_two _ _ _ | exact heap_snd _ _ _) (by first | omega | exact Grow.le (by repeat (first | exact Grow.refl _ | assumption | refine Grow.alloc ?_ _ | refine Grow.drew ?_ | refine Grow.drewN ?_ _ | refine Grow.trans ?_ (by assumption) | refine Grow.below ?_ (by assumption) (by first | exact Nat.le_refl _ | omega))))) A v.length c (v.map (Value.int .i64)) (by rfl) (by simp) (JA.grow (by repeat (first | exact Grow.refl _ | assumption | refine Grow.alloc ?_ _ | refine Grow.drew ?_ | refine Grow.drewN ?_ _ | refine Grow.trans ?_ (by assumption) | refine Grow.below ?_ (by assumption) (by first | exact Nat.le_refl _ | omega)))) (by simp [Value.oneCell']) (by unfold maxLen; omega) (by omega) (Grow.le (by repeat (first | exact Grow.refl _ | assumption | refine Grow.alloc ?_ _ | refine Grow.drew ?_ | refine Grow.drewN ?_ _ | refine Grow.trans ?_ (by assumption) | refine Grow.below ?_ (by assumption) (by first | exact Nat.le_refl _ | omega)))) v.length (by omega) (v.map (Value.int .i64)) (by simp) ?_; intro A1 c1 w3 ho1 hgr1 hat1 hb1)
      | (refine step_append_src _ (by rfl) (.tmp 7) (.tmp 9) 22 (by rfl) w0.heap.size 3 i0 _ 1 8 Tryd.underlying22 hi hz0 hz1 hz2 rfl (by omega) _ 0 [] (by rfl) (own_empty (by first | exact heap_alloc_new _ _ | exact heap_two _ _ _ | exact heap_snd _ _ _ | exact (hgr1.block (w0.heap.size + 1) (by simp) (by simp [Value.ownBlock])).trans (heap_snd _ _ _) | exact (hgr1.block w0.heap.size (by simp; omega) (by simp [Value.ownBlock])).trans (heap_two _ _ _)) (by first | omega | exact Grow.le (by repeat (first | exact Grow.refl _ | assumption | refine Grow.alloc ?_ _ | refine Grow.drew ?_ | refine Grow.drewN ?_ _ | refine Grow.trans ?_ (by assumption) | refine Grow.below ?_ (by assumption) (by first | exact Nat.le_refl _ | omega))))) B h.length d (h.map (Value.int .i64)) (by rfl) (by simp) (JB.grow (by repeat (first | exact Grow.refl _ | assumption | refine Grow.alloc ?_ _ | refine Grow.drew ?_ | refine Grow.drewN ?_ _ | refine Grow.trans ?_ (by assumption) | refine Grow.below ?_ (by assumption) (by first | exact Nat.le_refl _ | omega)))) (by simp [Value.oneCell']) (by unfold maxLen; omega) (by omega) (Grow.le (by repeat (first | exact Grow.refl _ | assumption | refine Grow.alloc ?_ _ | refine Grow.drew ?_ | refine Grow.drewN ?_ _ | refine Grow.trans ?_ (by assumption) | refine Grow.below ?_ (by assumption) (by first | exact Nat.le_refl _ | omega)))) h.length (by omega) (h.map (Value.int .i64)) (by simp) ?_; intro A2 c2 w4 ho2 hgr2 hat2 hb2; obtain ⟨j0, j1, e0, e1⟩ := (y2.grow (show Grow _ w4 from (by repeat (first | exact Grow.refl _ | assumption | refine Grow.alloc ?_ _ | refine Grow.drew ?_ | refine Grow.drewN ?_ _ | refine Grow.trans ?_ (by assumption) | refine Grow.below ?_ (by assumption) (by first | exact Nat.le_refl _ | omega))))).facts))
  all_goals
    have hs1 := hb1.size
    have hs2 := hb2.size
    simp only [World.size_alloc, World.size_drew] at hs1 hs2
    have hlt := y2.lt
    have hG0 : Grow w0 w4 := (by repeat (first | exact Grow.refl _ | assumption | refine Grow.alloc ?_ _ | refine Grow.drew ?_ | refine Grow.drewN ?_ _ | refine Grow.trans ?_ (by assumption) | refine Grow.below ?_ (by assumption) (by first | exact Nat.le_refl _ | omega)))
    have b1 := own_blk ho1
    have hA1 : ∀ k, (Value.slice A1 v.length c1).ownBlock = some k → k < w3.heap.size ∧ w0.heap.size ≤ k := fun k hk => ⟨(b1 k hk).2, (b1 k hk).1⟩
    have ho3 := own_kept (own_grow ho1 (by repeat (first | exact Grow.refl _ | assumption | refine Grow.alloc ?_ _ | refine Grow.drew ?_ | refine Grow.drewN ?_ _ | refine Grow.trans ?_ (by assumption) | refine Grow.below ?_ (by assumption) (by first | exact Nat.le_refl _ | omega)))) hgr2 (fun k hk e => by rcases hat1 with e1 | e1 <;> (have := hA1 k hk; rw [hk] at e1; simp [Value.ownBlock] at e1 e; omega))
    have hap : ∀ k, (Value.slice A1 v.length c1).ownBlock = some k → (Value.slice A2 h.length c2).ownBlock ≠ some k := fun k hk e => by
      rcases hat1 with e1 | e1 <;> rcases hat2 with e2 | e2 <;> (have := hA1 k hk; rw [hk] at e1; rw [e] at e2; simp [Value.ownBlock] at e1 e2; omega)
    have b2 := own_blk ho2
    have hGw := hG.trans hG0
    have hz := HSZ.out
    clear hgr1 hgr2 hat1 hat2 hb1 hb2 ho1 hG0 IA IB JA JB
    go_wp2
    refine bodyPost_ret (v := .agg #[.slice A1 v.length c1, .slice A2 h.length c2]) (by simp [results, Tryd.results97, go_sem, j0, j1]) rfl ⟨A1, A2, c1, c2, rfl, ⟨?_, ?_, hap⟩, ?_⟩
    · exact own_lo (own_far (own_far ho3 (fun k hk => by have := hA1 k hk; show w.heap.size + 1 ≠ k; omega) _) (fun k hk => by have := hA1 k hk; show w.heap.size + 1 ≠ k; omega) _) (by omega)
    · exact own_lo (own_far (own_far ho2 (fun k hk => by have := b2 k hk; show w.heap.size + 1 ≠ k; omega) _) (fun k hk => by have := b2 k hk; show w.heap.size + 1 ≠ k; omega) _) (by omega)
    · exact (hGw.setCell (by show w.heap.size ≤ w.heap.size + 1; omega) _).setCell (by show w.heap.size ≤ w.heap.size + 1; omega) _

end Go.Proofs.YtifdefkkofngoaaDoor
