/- The draws of the arguments of FactsImply and FactsHold. No conditions. -/
import Derived.Test.YtcpkmnlhenbnlaaDrawG
namespace Go.Proofs.Ytcpkmnlhenbnlaa
open Go.RowKit
set_option linter.unusedVariables false

set_option maxHeartbeats 800000 in
theorem DrawFactsImply_c (A : Option Addr) (n c : Nat) (w : World) (hb : Bytes w A n) (hn : n ≤ 9223372036854775807) (hc : n ≤ c) :
    Calls Try.prog 35 #[.slice A n c] w fun e w' => ∃ (l : List Pl.Fct) (A' : Option Addr) (c' : Nat) (f : Pl.Fct), l.length ≤ 40 ∧ e = .returned (.tuple #[.slice A' l.length c', fval f]) ∧ OFacts w' w.heap.size (.slice A' l.length c') l ∧ Grow w w' := by
  have hp0 := Part.made w 37 3 1 #[.bool false, .int .i64 0, .int .i64 0] rfl
  go_enter Try.func35, Try.ntmps35
  go_wp2_with fail
  refine (l18Open_c A n c _ (hb.grow (by repeat (first | exact Grow.refl _ | assumption | refine Grow.alloc ?_ _ | refine Grow.drew ?_ | refine Grow.drewN ?_ _ | refine Grow.trans ?_ (by assumption) | refine Grow.below ?_ (by assumption) (by first | exact Nat.le_refl _ | omega)))) hn hc).mono ?_
  rintro e w1 ⟨g, rfl, hr1, hgl, g1⟩
  simp only [World.size_alloc] at hgl
  have hs1 := g1.le
  simp only [World.size_alloc] at hs1
  have hG1 : Grow w w1 := (by repeat (first | exact Grow.refl _ | assumption | refine Grow.alloc ?_ _ | refine Grow.drew ?_ | refine Grow.drewN ?_ _ | refine Grow.trans ?_ (by assumption) | refine Grow.below ?_ (by assumption) (by first | exact Nat.le_refl _ | omega)))
  have hp1 := hp0.grow g1
  go_wp2_with fail
  refine (l1Facts_c g 0 _ hr1 (by omega)).mono ?_
  rintro e w2 ⟨⟨l, A2, c2, hl, _, rfl, ho2⟩, hr2, b2⟩
  go_wp2_with fail
  refine (l1Mutate_c g _ A2 _ c2 l _ hr2 (by omega) rfl (OFacts.facts rfl ho2) (by omega)).mono ?_
  rintro e w3 ⟨⟨l3, A3, c3, hl3, rfl, ho3⟩, hr3, b3⟩
  have hs2 := b2.size
  have hs3 := b3.size
  go_wp2_with fail
  refine (l1Fact_c g _ _ hr3 (by omega)).mono ?_
  rintro e w4 ⟨⟨f, hf, rfl⟩, hr4, b4⟩
  have hs4 := b4.size
  have ho4 := own_kept ho3 b4 (fun k hk e => by have := own_blk ho3 k hk; have := hr2.lt; injection e with e; omega)
  have hp4 := ((hp1.kept b2 (by intro h; injection h with h; omega)).kept b3 (by intro h; injection h with h; omega)).kept b4 (by intro h; injection h with h; omega)
  have hG4 : Grow w w4 := ((hG1.grown b2 (fun k hk => by injection hk with hk; omega)).grown b3 (fun k hk => by injection hk with hk; omega)).grown b4 (fun k hk => by injection hk with hk; omega)
  go_wp2_with fail
  refine (pick_c g _ 12 _ (hr4.grow (by repeat (first | exact Grow.refl _ | assumption | refine Grow.alloc ?_ _ | refine Grow.drew ?_ | refine Grow.drewN ?_ _ | refine Grow.trans ?_ (by assumption) | refine Grow.below ?_ (by assumption) (by first | exact Nat.le_refl _ | omega)))) (by omega) (by omega) (by omega)).mono ?_
  rintro e w5 ⟨⟨v, hv, rfl⟩, hr5, b5⟩
  have hgs := hr2.lt
  have ho5 := own_kept (own_grow ho4 (show Grow w4 _ from (by repeat (first | exact Grow.refl _ | assumption | refine Grow.alloc ?_ _ | refine Grow.drew ?_ | refine Grow.drewN ?_ _ | refine Grow.trans ?_ (by assumption) | refine Grow.below ?_ (by assumption) (by first | exact Nat.le_refl _ | omega))))) b5 (fun k hk e => by have := own_blk ho3 k hk; injection e with e; omega)
  have hp5 := (hp4.grow (show Grow w4 _ from (by repeat (first | exact Grow.refl _ | assumption | refine Grow.alloc ?_ _ | refine Grow.drew ?_ | refine Grow.drewN ?_ _ | refine Grow.trans ?_ (by assumption) | refine Grow.below ?_ (by assumption) (by first | exact Nat.le_refl _ | omega))))).kept b5 (by intro h; injection h with h; omega)
  have hG5 : Grow w w5 := (hG4.alloc _).grown b5 (fun k hk => by injection hk with hk; omega)
  have hs5 := b5.size
  simp only [World.size_alloc] at hs5
  have q0 := b5.cell (a := ⟨w4.heap.size, 0, none⟩) (v := .bool f.e) (by rw [cell_of_row _ _ _ _ _ _ (heap_alloc_new w4 _)]; rfl) (by intro h; injection h with h; simp at h; omega)
  have q1 := b5.cell (a := ⟨w4.heap.size, 1, none⟩) (v := .int .i64 f.a) (by rw [cell_of_row _ _ _ _ _ _ (heap_alloc_new w4 _)]; rfl) (by intro h; injection h with h; simp at h; omega)
  have q2 := b5.cell (a := ⟨w4.heap.size, 2, none⟩) (v := .int .i64 f.b) (by rw [cell_of_row _ _ _ _ _ _ (heap_alloc_new w4 _)]; rfl) (by intro h; injection h with h; simp at h; omega)
  have qf : w5.frozen? ⟨w4.heap.size, 1, none⟩ = false := by
    have h := b5.block w4.heap.size (by simp) (by intro h; injection h with h; omega)
    rw [heap_alloc_new w4 _] at h
    simp [World.frozen?, h]
  obtain ⟨x0, k0⟩ := hp5.cell (o := 0) (by omega)
  obtain ⟨x1, k1⟩ := hp5.cell (o := 1) (by omega)
  obtain ⟨x2, k2⟩ := hp5.cell (o := 2) (by omega)
  have f0 := hp5.frozen 0
  have f1 := hp5.frozen 1
  have f2 := hp5.frozen 2
  have hl4 : w.heap.size < w4.heap.size := by omega
  have hne : (w.heap.size == w4.heap.size) = false := by simp; omega
  clear hp0 hp1 hp4 b2 b3 b4 b5 hG1 hG4 g1 hr1 hr2 hr3 hr4 ho2 ho4 hr5 hb hf
  have ho3' := ho3
  clear ho3
  by_cases hv0 : v = 0
  · have hb0 : ((v : Int) == 0) = true := by simp [hv0]
    clear hv0
    go_wp2_with fail
    have hne4 : ∀ o : Nat, (⟨w4.heap.size, 1, none⟩ : Addr) ≠ ⟨w.heap.size, o, none⟩ := fun o h => by injection h with h; omega
    have q0' : (w5.setCell ⟨w4.heap.size, 1, none⟩ (.int .i64 9)).cell? ⟨w4.heap.size, 0, none⟩ = some (.bool f.e) := (World.cell?_setCell_other w5 _ _ _ (fun h => by injection h with _ h; omega)).trans q0
    have q2' : (w5.setCell ⟨w4.heap.size, 1, none⟩ (.int .i64 9)).cell? ⟨w4.heap.size, 2, none⟩ = some (.int .i64 f.b) := (World.cell?_setCell_other w5 _ _ _ (fun h => by injection h with _ h; omega)).trans q2
    have q1' : (w5.setCell ⟨w4.heap.size, 1, none⟩ (.int .i64 9)).cell? ⟨w4.heap.size, 1, none⟩ = some (.int .i64 9) := World.cell?_setCell_same w5 _ _ q1
    have k0' := (World.cell?_setCell_other w5 _ _ (.int .i64 9) (hne4 0)).trans k0
    have k1' := (World.cell?_setCell_other w5 _ _ (.int .i64 9) (hne4 1)).trans k1
    have k2' := (World.cell?_setCell_other w5 _ _ (.int .i64 9) (hne4 2)).trans k2
    have hp6 := hp5.far (p := ⟨w4.heap.size, 1, none⟩) (by show w.heap.size ≠ w4.heap.size; omega) (.int .i64 9)
    have hG6 : Grow w (w5.setCell ⟨w4.heap.size, 1, none⟩ (.int .i64 9)) := hG5.setCell (by show w.heap.size ≤ w4.heap.size; omega) _
    have ho6 : (w5.setCell ⟨w4.heap.size, 1, none⟩ (.int .i64 9)).ownsRow w2.heap.size 37 3 (.slice A3 l3.length c3) l3.length (l3.flatMap fcells) := own_kept (row := some w4.heap.size) ho5 (only_setCell (World.grownBy.refl _ _) 1 (.int .i64 9)) (fun k hk e => by have := own_blk ho3' k hk; injection e with e; omega)
    clear q0 q1 q2 qf k0 k1 k2 f0 f1 f2 hp5 hG5 ho5 hs5 hne4
    generalize w5.setCell ⟨w4.heap.size, 1, none⟩ (.int .i64 9) = w6 at *
    have f0 := hp6.frozen 0
    have f1 := hp6.frozen 1
    have f2 := hp6.frozen 2
    go_still_tail 3, mixed
    change wpList _ _ _ _ _ w6.drew
    go_wp2
    refine bodyPost_ret (v := .tuple #[.slice A3 l3.length c3, fval ⟨f.e, 9, f.b⟩]) (by simp [results, Try.results35, go_sem, k0', k1', k2']) rfl ⟨l3, A3, c3, ⟨f.e, 9, f.b⟩, hl3, rfl, ?_, ?_⟩
    · exact own_lo (own_grow (w := ((w6.setCell _ _).setCell _ _).setCell _ _) (own_kept (row := some w.heap.size) ho6 (only_setCell (only_setCell (only_setCell (World.grownBy.refl _ (some w.heap.size)) 0 _) 1 _) 2 _) (fun k hk e => by have := own_blk ho6 k hk; injection e with e; omega)) (Grow.drew (Grow.refl _))) (by omega)
    · exact (((hG6.setCell (Nat.le_refl _) _).setCell (Nat.le_refl _) _).setCell (Nat.le_refl _) _).drew
  · have hb0 : ((v : Int) == 0) = false := by simp; omega
    clear hv0
    go_wp2_with fail
    go_still_tail 3, mixed
    change wpList _ _ _ _ _ w5.drew
    go_wp2
    refine bodyPost_ret (v := .tuple #[.slice A3 l3.length c3, fval f]) (by simp [results, Try.results35, go_sem, k0, k1, k2]) rfl ⟨l3, A3, c3, f, hl3, rfl, ?_, ?_⟩
    · exact own_lo (own_grow (w := ((w5.setCell _ _).setCell _ _).setCell _ _) (own_kept (row := some w.heap.size) ho5 (only_setCell (only_setCell (only_setCell (World.grownBy.refl _ (some w.heap.size)) 0 _) 1 _) 2 _) (fun k hk e => by have := own_blk ho5 k hk; injection e with e; omega)) (Grow.drew (Grow.refl _))) (by omega)
    · exact (((hG5.setCell (Nat.le_refl _) _).setCell (Nat.le_refl _) _).setCell (Nat.le_refl _) _).drew

theorem ints_take {w : World} {A : Option Addr} {l : List Int} (h : Ints w A l) (k : Nat) : Ints w A (l.take k) := fun hne => by
  obtain ⟨b, off, hA, hc⟩ := h (by rintro rfl; simp at hne)
  exact ⟨b, off, hA, fun i hi => by
    have := hc i (by rw [List.length_take] at hi; omega)
    rw [List.getElem_take]; exact this⟩

set_option maxHeartbeats 800000 in
theorem DrawFactsHold_c (A : Option Addr) (n c : Nat) (w : World) (hb : Bytes w A n) (hn : n ≤ 9223372036854775807) (hc : n ≤ c) :
    Calls Try.prog 39 #[.slice A n c] w fun e w' => ∃ (l : List Pl.Fct) (A' : Option Addr) (c' : Nat) (vs : List Int) (B : Option Addr) (d : Nat), l.length ≤ 40 ∧ vs.length ≤ 8 ∧
      e = .returned (.tuple #[.slice A' l.length c', .slice B vs.length d]) ∧ Facts w' A' l ∧ Ints w' B vs ∧ Grow w w' := by
  go_enter Try.func39, Try.ntmps39
  go_wp2_with fail
  refine (l18Open_c A n c _ hb hn hc).mono ?_
  rintro e w1 ⟨g, rfl, hr1, hgl, g1⟩
  have hs1 := g1.le
  go_wp2_with fail
  refine (l1Facts_c g 0 _ hr1 (by omega)).mono ?_
  rintro e w2 ⟨⟨l, A2, c2, hl, _, rfl, ho2⟩, hr2, b2⟩
  go_wp2_with fail
  refine (l1Mutate_c g _ A2 _ c2 l _ hr2 (by omega) rfl (OFacts.facts rfl ho2) (by omega)).mono ?_
  rintro e w3 ⟨⟨l3, A3, c3, hl3, rfl, ho3⟩, hr3, b3⟩
  have hs2 := b2.size
  have hs3 := b3.size
  have hgs := hr2.lt
  go_wp2_with fail
  refine (l1Values_c g _ _ hr3 (by omega)).mono ?_
  rintro e w4 ⟨⟨vs, A4, c4, h8, rfl, ho4⟩, hr4, b4⟩
  have hs4 := b4.size
  have o34 := own_kept ho3 b4 (fun k hk e => by have := own_blk ho3 k hk; injection e with e; omega)
  go_wp2_with fail
  refine (pick_c g _ 20 _ hr4 (by omega) (by omega) (by omega)).mono ?_
  rintro e w5 ⟨⟨v, hv, rfl⟩, hr5, b5⟩
  have o35 := own_kept o34 b5 (fun k hk e => by have := own_blk ho3 k hk; injection e with e; omega)
  have o45 := own_kept ho4 b5 (fun k hk e => by have := own_blk ho4 k hk; injection e with e; omega)
  have hG : Grow w w5 := (((g1.grown b2 (fun k hk => by injection hk with hk; omega)).grown b3 (fun k hk => by injection hk with hk; omega)).grown b4 (fun k hk => by injection hk with hk; omega)).grown b5 (fun k hk => by injection hk with hk; omega)
  have F := OFacts.facts rfl o35
  have I := OInts.ints rfl o45
  have hc8 : 8 ≤ c4 := by
    rcases o45.2 with ⟨hx, h0⟩ | ⟨g', cap, cur, hx, _, _, hle, _⟩
    · omega
    · injection hx with _ _ h3; omega
  have H8 := Lib.hid h8
  clear b2 b3 b4 b5 hr1 hr2 hr3 hr4 hr5 ho2 ho3 ho4 o34 o35 o45 g1 h8 hb
  by_cases hv0 : v = 0
  · have hb0 : ((v : Int) == 0) = true := by simp [hv0]
    have h7 : (7 : Int) ≤ (c4 : Int) := by omega
    clear hv0
    go_wp2_with fail
    go_ret2
    exact ⟨l3, A3, c3, vs.take 7, A4, c4, hl3, by rw [List.length_take]; omega, by rw [List.length_take, H8.out]; rfl, F, ints_take I 7, hG⟩
  · have hb0 : ((v : Int) == 0) = false := by simp; omega
    clear hv0
    go_wp2_with fail
    go_ret2
    exact ⟨l3, A3, c3, vs, A4, c4, hl3, by rw [H8.out]; omega, by rw [H8.out]; rfl, F, I, hG⟩

end Go.Proofs.Ytcpkmnlhenbnlaa
