/- Contracts of copies of states, in the program and in the reference: new memory that reads the same. Conditions: the lengths are far from Go's bounds. -/
import Derived.Test.YtcipmmieiafpbaaSt3
import Derived.Laws.CopyOwn
namespace Go.Proofs.Ytcipmmieiafpbaa
open Go.RowKit
set_option linter.unusedVariables false

theorem copyInts_c (A : Option Addr) (c : Nat) (l : List Int) (w : World) (hA : Ints w A l) (hn : l.length ≤ 4194304) :
    Calls Try.prog 94 #[.slice A l.length c] w fun e w' => ∃ A' c', e = .returned (.slice A' l.length c') ∧ OInts w' w.heap.size (.slice A' l.length c') l ∧ Grow w w' := by
  obtain ⟨i0, hi, hz0, hz1, hz2⟩ := info_parts int_info
  have hmk := fun W => run_make_rows (P := Try.prog) 22 3 i0 _ Try.underlying22 hi hz0 .i64 .i64 l.length l.length (Nat.le_refl _) (by rw [hz2]; omega) (by omega) W
  rw [hz1] at hmk
  have hsz : (Try.prog.info? 3).map (·.size) = some 1 := by rw [hi]; simp [hz1]
  have hpos : 0 < (l.map (Value.int .i64)).length → some (⟨w.heap.size, 0, none⟩ : Addr) = some ⟨w.heap.size, 0, none⟩ ∧ ∃ ad, A = some ad ∧ ∀ j v, (l.map (Value.int .i64))[j]? = some v → (w.alloc (.cells (madeCells #[Value.int .i64 0] l.length) 3)).cell? (ad.add j) = some v := by
    intro hpos
    obtain ⟨b, off, hA', hc⟩ := (hA.cells.grow (show Grow w (w.alloc (.cells (madeCells #[Value.int .i64 0] l.length) 3)) from Grow.alloc (Grow.refl w) _)) (by rintro e; rw [e] at hpos; simp at hpos)
    exact ⟨rfl, ⟨b, off, none⟩, hA', fun j v hj => by rw [show (⟨b, off, none⟩ : Addr).add j = ⟨b, off + j, none⟩ from by unfold Addr.add; split <;> simp_all]; exact hc j v hj⟩
  have HP := Lib.hid hpos
  have HO := Lib.hid (show ∀ u ∈ l.map (Value.int .i64), u.oneCell' = true from fun u hu => by obtain ⟨x, _, rfl⟩ := List.mem_map.1 hu; rfl)
  clear hpos hA
  have HN := Lib.hid (show (w.alloc (.cells (madeCells #[Value.int .i64 0] l.length) 3)).heap[w.heap.size]? = some (.cells (madeCells #[Value.int .i64 0] l.length).toList.toArray 3 (0, 0)) from heap_alloc_new w _)
  have H1 := Lib.hid (show (l.map (Value.int .i64)).length = Nat.min l.length l.length by simp)
  have H2 := Lib.hid (show 0 + (l.map (Value.int .i64)).length ≤ (madeCells #[Value.int .i64 0] l.length).toList.length by simp [size_madeCells])
  have H3 := Lib.hid (show Below w.heap.size w (w.alloc (.cells (madeCells #[Value.int .i64 0] l.length) 3)) from Grow.alloc (Grow.refl w) _)
  go_enter Try.func94, Try.ntmps94
  go_wp2_with (refine wpList_copy_splice rfl (.tmp 7) (.tmp 8) 22 22 rfl 3 Try.underlying22 hsz (some ⟨w.heap.size, 0, none⟩) A l.length l.length l.length c rfl rfl w.heap.size 0 (madeCells #[Value.int .i64 0] l.length).toList 3 HN.out (l.map (Value.int .i64)) H1.out HP.out H2.out HO.out w.heap.size w H3.out (Nat.le_refl _) ?_; intro w1 hh hb)
  all_goals
    go_ret
    refine ⟨_, _, rfl, ?_, hb⟩
    have hs : splice (madeCells #[Value.int .i64 0] l.length).toList 0 (l.map (Value.int .i64)) = l.map (Value.int .i64) := by
      unfold splice
      rw [List.take_zero, List.nil_append, List.drop_of_length_le (by rw [Array.length_toList, size_madeCells]; simp), List.append_nil]
    have h3 := hh.out
    rw [hs] at h3
    exact ⟨by simp, .inr ⟨w.heap.size, l.length, _, rfl, Nat.le_refl _, h3, Nat.le_refl _, by unfold maxLen; omega, by simp, by simpa using List.take_of_length_le (l := l.map (Value.int .i64)) (i := l.length) (by simp)⟩⟩

set_option maxHeartbeats 1000000 in
theorem copyState_c (A B : Option Addr) (c d : Nat) (s : Pl.St) (w : World) (hS : Sts w A B s) (h1 : s.v.length ≤ 4194304) (h2 : s.h.length ≤ 4194304) :
    Calls Try.prog 61 #[sval A B c d s] w fun e w' => ∃ A' B' c' d', e = .returned (sval A' B' c' d' s) ∧ OSt w' w.heap.size A' B' c' d' s ∧ Grow w w' := by
  obtain ⟨v, h⟩ := s
  have IA : Ints w A v := hS.v
  have IB : Ints w B h := hS.h
  replace h1 : v.length ≤ 4194304 := h1
  replace h2 : h.length ≤ 4194304 := h2
  have y2 := Box2.new (w.alloc (.cells #[.slice A v.length c, .slice B h.length d] 30)) 30 (.slice none 0 0) (.slice none 0 0)
  simp only [World.size_alloc] at y2
  go_enter Try.func61, Try.ntmps61
  go_wp2_with fail
  go_region_held3 (fun W => W.cell? ⟨w.heap.size, 0, none⟩ = some (.slice A v.length c) ∧ W.cell? ⟨w.heap.size, 1, none⟩ = some (.slice B h.length d))
    (first | go_keep | (go_split_ands; exact ⟨g2.cell (by assumption), g2.cell (by assumption)⟩) | (go_split_ands; exact ⟨g1.cell (by assumption), g1.cell (by assumption)⟩))
    (first
      | (go_at_call 94; (with_reducible refine (copyInts_c A c v _ (IA.grow (by repeat (first | exact Grow.refl _ | assumption | refine Grow.alloc ?_ _ | refine Grow.drew ?_ | refine Grow.drewN ?_ _ | refine Grow.trans ?_ (by assumption) | refine Grow.below ?_ (by assumption) (by first | exact Nat.le_refl _ | omega)))) h1).mono ?_); rintro e w1 ⟨A1, c1, rfl, o1, g1⟩)
      | (go_at_call 94; (with_reducible refine (copyInts_c B d h _ (IB.grow (by repeat (first | exact Grow.refl _ | assumption | refine Grow.alloc ?_ _ | refine Grow.drew ?_ | refine Grow.drewN ?_ _ | refine Grow.trans ?_ (by assumption) | refine Grow.below ?_ (by assumption) (by first | exact Nat.le_refl _ | omega)))) h2).mono ?_); rintro e w2 ⟨B2, d2, rfl, o2, g2⟩; have y3 := y2.grow (show Grow _ w2 from (by repeat (first | exact Grow.refl _ | assumption | refine Grow.alloc ?_ _ | refine Grow.drew ?_ | refine Grow.drewN ?_ _ | refine Grow.trans ?_ (by assumption) | refine Grow.below ?_ (by assumption) (by first | exact Nat.le_refl _ | omega)))); obtain ⟨j0, j1, e0, e1⟩ := y3.facts))
  have b1 := own_blk o1
  have b2 := own_blk o2
  have hlt := y3.lt
  have hs1 := g1.le
  simp only [World.size_alloc, World.size_drew] at hs1 b1 b2
  have o1' := own_grow o1 g2
  have hG : Grow w w2 := (by repeat (first | exact Grow.refl _ | assumption | refine Grow.alloc ?_ _ | refine Grow.drew ?_ | refine Grow.drewN ?_ _ | refine Grow.trans ?_ (by assumption) | refine Grow.below ?_ (by assumption) (by first | exact Nat.le_refl _ | omega)))
  clear g1 g2 o1 y2 y3
  go_wp2
  refine bodyPost_ret (v := .agg #[.slice A1 v.length c1, .slice B2 h.length d2]) (by simp [results, Try.results61, go_sem, j0, j1]) rfl ⟨A1, B2, c1, d2, rfl, ⟨?_, ?_, fun k h1 h2 => by have := b1 k h1; have := b2 k h2; omega⟩, ?_⟩
  · exact own_lo (own_far (own_far o1' (fun k hk => by have := b1 k hk; show w.heap.size + 1 ≠ k; omega) _) (fun k hk => by have := b1 k hk; show w.heap.size + 1 ≠ k; omega) _) (by simp only [World.size_alloc, World.size_drew]; omega)
  · exact own_lo (own_far (own_far o2 (fun k hk => by have := b2 k hk; show w.heap.size + 1 ≠ k; omega) _) (fun k hk => by have := b2 k hk; show w.heap.size + 1 ≠ k; omega) _) (by omega)
  · exact (hG.setCell (by show w.heap.size ≤ w.heap.size + 1; omega) _).setCell (by show w.heap.size ≤ w.heap.size + 1; omega) _

set_option maxHeartbeats 1000000 in
theorem l2Copy_c (A B : Option Addr) (c d : Nat) (s : Pl.St) (w : World) (hS : Sts w A B s) (h1 : s.v.length ≤ 4194304) (h2 : s.h.length ≤ 4194304) :
    Calls Try.prog 58 #[sval A B c d s] w fun e w' => ∃ A' B' c' d', e = .returned (sval A' B' c' d' s) ∧ OSt w' w.heap.size A' B' c' d' s ∧ Grow w w' := by
  obtain ⟨i0, hi, hz0, hz1, hz2⟩ := info_parts int_info
  obtain ⟨v, h⟩ := s
  have IA := (show Ints w A v from hS.v).cells
  have IB := (show Ints w B h from hS.h).cells
  replace h1 : v.length ≤ 4194304 := h1
  replace h2 : h.length ≤ 4194304 := h2
  go_enter Try.func58, Try.ntmps58
  go_wp2_with fail
  have y2 := Box2.new (w.alloc (.cells #[.slice A v.length c, .slice B h.length d] 30)) 30 (.slice none 0 0) (.slice none 0 0)
  have hG : Grow w ((w.alloc (.cells #[.slice A v.length c, .slice B h.length d] 30)).alloc (.cells #[.slice none 0 0, .slice none 0 0] 30)) := (by repeat (first | exact Grow.refl _ | assumption | refine Grow.alloc ?_ _ | refine Grow.drew ?_ | refine Grow.drewN ?_ _ | refine Grow.trans ?_ (by assumption) | refine Grow.below ?_ (by assumption) (by first | exact Nat.le_refl _ | omega)))
  obtain ⟨k0, k1, _, _⟩ := ((Box2.new w 30 (.slice A v.length c) (.slice B h.length d)).grow (show Grow _ ((w.alloc (.cells #[.slice A v.length c, .slice B h.length d] 30)).alloc (.cells #[.slice none 0 0, .slice none 0 0] 30)) from Grow.alloc (Grow.refl _) _)).facts
  have hsz : ((w.alloc (.cells #[.slice A v.length c, .slice B h.length d] 30)).alloc (.cells #[.slice none 0 0, .slice none 0 0] 30)).heap.size = w.heap.size + 1 + 1 := by simp
  simp only [World.size_alloc] at y2
  generalize (w.alloc (.cells #[.slice A v.length c, .slice B h.length d] 30)).alloc (.cells #[.slice none 0 0, .slice none 0 0] 30) = w0 at *
  have hlt0 : w.heap.size < w0.heap.size := by omega
  have HSZ := Lib.hid hsz
  clear hsz
  have JA := IA.grow hG
  have JB := IB.grow hG
  go_region_held3 (fun W => W.cell? ⟨w.heap.size, 0, none⟩ = some (.slice A v.length c) ∧ W.cell? ⟨w.heap.size, 1, none⟩ = some (.slice B h.length d))
    (first
      | go_keep
      | (go_split_ands; exact ⟨(hb2.cell hlt0).trans (by assumption), (hb2.cell hlt0).trans (by assumption)⟩)
      | (go_split_ands; exact ⟨(hb1.cell hlt0).trans (by assumption), (hb1.cell hlt0).trans (by assumption)⟩))
    (first
      | (refine step_append_src _ (by rfl) (.tmp 3) (.tmp 5) 22 (by rfl) w0.heap.size 3 i0 _ 1 8 Try.underlying22 hi hz0 hz1 hz2 rfl (by omega) _ 0 [] (by rfl) (own_empty (by first | exact heap_alloc_new _ _ | exact heap_two _ _ _ | exact heap_snd _ _ _) (by first | omega | exact Grow.le (by repeat (first | exact Grow.refl _ | assumption | refine Grow.alloc ?_ _ | refine Grow.drew ?_ | refine Grow.drewN ?_ _ | refine Grow.trans ?_ (by assumption) | refine Grow.below ?_ (by assumption) (by first | exact Nat.le_refl _ | omega))))) A v.length c (v.map (Value.int .i64)) (by rfl) (by simp) (JA.grow (by repeat (first | exact Grow.refl _ | assumption | refine Grow.alloc ?_ _ | refine Grow.drew ?_ | refine Grow.drewN ?_ _ | refine Grow.trans ?_ (by assumption) | refine Grow.below ?_ (by assumption) (by first | exact Nat.le_refl _ | omega)))) (by simp [Value.oneCell']) (by unfold maxLen; omega) (by omega) (Grow.le (by repeat (first | exact Grow.refl _ | assumption | refine Grow.alloc ?_ _ | refine Grow.drew ?_ | refine Grow.drewN ?_ _ | refine Grow.trans ?_ (by assumption) | refine Grow.below ?_ (by assumption) (by first | exact Nat.le_refl _ | omega)))) v.length (by omega) (v.map (Value.int .i64)) (by simp) ?_; intro A1 c1 w3 ho1 hgr1 hat1 hb1)
      | (refine step_append_src _ (by rfl) (.tmp 7) (.tmp 9) 22 (by rfl) w0.heap.size 3 i0 _ 1 8 Try.underlying22 hi hz0 hz1 hz2 rfl (by omega) _ 0 [] (by rfl) (own_empty (by first | exact heap_alloc_new _ _ | exact heap_two _ _ _ | exact heap_snd _ _ _ | exact (hgr1.block (w0.heap.size + 1) (by simp) (by simp [Value.ownBlock])).trans (heap_snd _ _ _) | exact (hgr1.block w0.heap.size (by simp; omega) (by simp [Value.ownBlock])).trans (heap_two _ _ _)) (by first | omega | exact Grow.le (by repeat (first | exact Grow.refl _ | assumption | refine Grow.alloc ?_ _ | refine Grow.drew ?_ | refine Grow.drewN ?_ _ | refine Grow.trans ?_ (by assumption) | refine Grow.below ?_ (by assumption) (by first | exact Nat.le_refl _ | omega))))) B h.length d (h.map (Value.int .i64)) (by rfl) (by simp) (JB.grow (by repeat (first | exact Grow.refl _ | assumption | refine Grow.alloc ?_ _ | refine Grow.drew ?_ | refine Grow.drewN ?_ _ | refine Grow.trans ?_ (by assumption) | refine Grow.below ?_ (by assumption) (by first | exact Nat.le_refl _ | omega)))) (by simp [Value.oneCell']) (by unfold maxLen; omega) (by omega) (Grow.le (by repeat (first | exact Grow.refl _ | assumption | refine Grow.alloc ?_ _ | refine Grow.drew ?_ | refine Grow.drewN ?_ _ | refine Grow.trans ?_ (by assumption) | refine Grow.below ?_ (by assumption) (by first | exact Nat.le_refl _ | omega)))) h.length (by omega) (h.map (Value.int .i64)) (by simp) ?_; intro A2 c2 w4 ho2 hgr2 hat2 hb2; obtain ⟨j0, j1, e0, e1⟩ := (y2.grow (show Grow _ w4 from (by repeat (first | exact Grow.refl _ | assumption | refine Grow.alloc ?_ _ | refine Grow.drew ?_ | refine Grow.drewN ?_ _ | refine Grow.trans ?_ (by assumption) | refine Grow.below ?_ (by assumption) (by first | exact Nat.le_refl _ | omega))))).facts))
  all_goals
    have hs1 := hb1.size
    have hs2 := hb2.size
    simp only [World.size_alloc, World.size_drew] at hs1 hs2
    have hlt := y2.lt
    have hG0 : Grow w0 w4 := (by repeat (first | exact Grow.refl _ | assumption | refine Grow.alloc ?_ _ | refine Grow.drew ?_ | refine Grow.drewN ?_ _ | refine Grow.trans ?_ (by assumption) | refine Grow.below ?_ (by assumption) (by first | exact Nat.le_refl _ | omega)))
    have b1 := own_blk ho1
    have hA1 : ∀ k, (Value.slice A1 v.length c1).ownBlock = some k → k < w3.heap.size ∧ w0.heap.size ≤ k := fun k hk => ⟨(b1 k hk).2, (b1 k hk).1⟩
    have ho3 := own_kept (own_grow ho1 (by repeat (first | exact Grow.refl _ | assumption | refine Grow.alloc ?_ _ | refine Grow.drew ?_ | refine Grow.drewN ?_ _ | refine Grow.trans ?_ (by assumption) | refine Grow.below ?_ (by assumption) (by first | exact Nat.le_refl _ | omega)))) hgr2 (fun k hk e => by rcases hat1 with e1 | e1 <;> (have := hA1 k hk; rw [hk] at e1; simp [Value.ownBlock] at e1 e; omega))
    have hap : ∀ k, (Value.slice A1 v.length c1).ownBlock = some k → (Value.slice A2 h.length c2).ownBlock ≠ some k := fun k hk e => by
      rcases hat1 with e1 | e1 <;> rcases hat2 with e2 | e2 <;> (have := hA1 k hk; rw [hk] at e1; rw [e] at e2; simp [Value.ownBlock] at e1 e2; omega)
    have b2 := own_blk ho2
    have hGw := hG.trans hG0
    have hz := HSZ.out
    clear hgr1 hgr2 hat1 hat2 hb1 hb2 ho1 hG0 IA IB JA JB
    go_wp2
    refine bodyPost_ret (v := .agg #[.slice A1 v.length c1, .slice A2 h.length c2]) (by simp [results, Try.results58, go_sem, j0, j1]) rfl ⟨A1, A2, c1, c2, rfl, ⟨?_, ?_, hap⟩, ?_⟩
    · exact own_lo (own_far (own_far ho3 (fun k hk => by have := hA1 k hk; show w.heap.size + 1 ≠ k; omega) _) (fun k hk => by have := hA1 k hk; show w.heap.size + 1 ≠ k; omega) _) (by omega)
    · exact own_lo (own_far (own_far ho2 (fun k hk => by have := b2 k hk; show w.heap.size + 1 ≠ k; omega) _) (fun k hk => by have := b2 k hk; show w.heap.size + 1 ≠ k; omega) _) (by omega)
    · exact (hGw.setCell (by show w.heap.size ≤ w.heap.size + 1; omega) _).setCell (by show w.heap.size ≤ w.heap.size + 1; omega) _

end Go.Proofs.Ytcipmmieiafpbaa
