/- The draws of the arguments of the laws of cells. No conditions. -/
import Derived.Test.YtcipmmieiafpbaaDrawS2
import Derived.Test.YtcipmmieiafpbaaKq
namespace Go.Proofs.Ytcipmmieiafpbaa
open Go.RowKit
set_option linter.unusedVariables false

/-- A state and a list of addresses were drawn. -/
def DrawnK (w : World) (e : Ending) (w' : World) : Prop := ∃ A B c d v h A9 c9 l, e = .returned (.tuple #[sval A B c d ⟨v, h⟩, .slice A9 l.length c9]) ∧ OSt w' w.heap.size A B c d ⟨v, h⟩ ∧ (v.length ≤ 8 ∧ h.length ≤ 9) ∧ Ints w' A9 l ∧ l.length ≤ 100 ∧ Grow w w'

set_option maxRecDepth 100000 in
set_option maxHeartbeats 3200000 in
theorem DrawKeepCells_c (A : Option Addr) (n c : Nat) (w : World) (hb : Bytes w A n) (hn : n ≤ 9223372036854775807) (hc : n ≤ c) :
    Calls Try.prog 35 #[.slice A n c] w (DrawnK w) := by
  obtain ⟨i0, hi, hz0, hz1, hz2⟩ := info_parts int_info
  have y0 := Box2.new w 30 (.slice none 0 0) (.slice none 0 0)
  go_enter Try.func35, Try.ntmps35
  go_wp2_with fail
  refine (l18Open_c A n c _ (hb.grow (by repeat (first | exact Grow.refl _ | assumption | refine Grow.alloc ?_ _ | refine Grow.drew ?_ | refine Grow.drewN ?_ _ | refine Grow.trans ?_ (by assumption) | refine Grow.below ?_ (by assumption) (by first | exact Nat.le_refl _ | omega)))) hn hc).mono ?_
  rintro e w1 ⟨g, rfl, hr1, hgl, g1⟩
  simp only [World.size_alloc] at hgl
  have y0 := y0.grow g1
  have hG1 : Grow w w1 := (by repeat (first | exact Grow.refl _ | assumption | refine Grow.alloc ?_ _ | refine Grow.drew ?_ | refine Grow.drewN ?_ _ | refine Grow.trans ?_ (by assumption) | refine Grow.below ?_ (by assumption) (by first | exact Nat.le_refl _ | omega)))
  have hs1 := y0.lt
  clear g1 hb
  go_wp2_with fail
  refine (l2Draw_c g 0 _ hr1 (by omega)).mono ?_
  rintro e w2 ⟨⟨A2, B2, c2, d2, v2, h2, rfl, o2, hv2, hh2⟩, hr2, b2⟩
  have y0 := y0.kept b2 (by intro e; injection e with e; omega)
  have hG2 : Grow w w2 := hG1.grown b2 (fun k hk => by injection hk with hk; omega)
  have hs2 := b2.size
  have S2 : Sts w2 A2 B2 ⟨v2, h2⟩ := o2.st
  have hlv : v2.length ≤ 8 := by omega
  have hlh : h2.length ≤ 8 := by omega
  clear b2 hr1 hG1 o2 hv2 hh2
  go_wp2_with fail
  refine (l2Mutate_c g _ A2 B2 c2 d2 ⟨v2, h2⟩ _ hr2 (by omega) S2 (by show v2.length ≤ _; omega) (by show h2.length ≤ _; omega)).mono ?_
  rintro e w3 ⟨⟨A3, B3, c3, d3, v, h, rfl, o3, hv, hh⟩, hr3, b3⟩
  have y0 := y0.kept b3 (by intro e; injection e with e; omega)
  have hG : Grow w w3 := hG2.grown b3 (fun k hk => by injection hk with hk; omega)
  have hs3 := b3.size
  have hv8 : v.length ≤ 8 := Nat.le_trans hv hlv
  have hh9 : h.length ≤ 9 := Nat.le_trans hh (by show h2.length + 1 ≤ 9; omega)
  have hlt3 := y0.lt
  have hg3 := hr3.lt
  have hg2 := hr2.lt
  clear b3 hr2 hG2 S2 hv hh hlv hlh
  obtain ⟨AS, rfl⟩ : ∃ x, x = A3 := ⟨_, rfl⟩
  obtain ⟨cS, rfl⟩ : ∃ x, x = c3 := ⟨_, rfl⟩
  have y5 := Box2.new w3 30 (.slice AS v.length cS) (.slice B3 h.length d3)
  have q : Grow w3 (w3.alloc (.cells #[.slice AS v.length cS, .slice B3 h.length d3] 30)) := (by repeat (first | exact Grow.refl _ | assumption | refine Grow.alloc ?_ _ | refine Grow.drew ?_ | refine Grow.drewN ?_ _ | refine Grow.trans ?_ (by assumption) | refine Grow.below ?_ (by assumption) (by first | exact Nat.le_refl _ | omega)))
  replace y0 := y0.grow q
  replace hr3 := hr3.grow q
  replace o3 := o3.grow q
  replace hG := hG.trans q
  have hz5 := y5.lt
  clear q
  go_wp2_with fail
  generalize w3.alloc (.cells #[.slice AS v.length cS, .slice B3 h.length d3] 30) = w4 at *
  refine (sUsedCells_c AS B3 cS d3 ⟨v, h⟩ _ o3.st (by show v.length ≤ _; omega) (by show h.length ≤ _; omega)).mono ?_
  rintro e w5 ⟨A5, c5, rfl, o5, g5⟩
  obtain ⟨us, hus⟩ : ∃ us, us = Pl.usedC ⟨v, h⟩ := ⟨_, rfl⟩
  have hu8 : us.length ≤ 8 := by rw [hus]; exact Pl.usedC_len _
  rw [← hus] at o5
  rw [← hus]
  clear hus
  have hz6 := g5.le
  have q : Grow w5 (w5.alloc (.cells #[] 3)) := (by repeat (first | exact Grow.refl _ | assumption | refine Grow.alloc ?_ _ | refine Grow.drew ?_ | refine Grow.drewN ?_ _ | refine Grow.trans ?_ (by assumption) | refine Grow.below ?_ (by assumption) (by first | exact Nat.le_refl _ | omega)))
  have o9 : OInts (w5.alloc (.cells #[] 3)) w5.heap.size (.slice (some ⟨w5.heap.size, 0, none⟩) ([] : List Int).length 0) [] := own_empty (heap_alloc_new _ _) (Nat.le_refl _)
  replace y0 := y0.grow g5
  replace y5 := y5.grow g5
  replace hr3 := hr3.grow (g5.trans q)
  replace o3 := o3.grow g5
  replace hG := hG.trans g5
  have E0 : w5.grownBy (w5.alloc (.cells #[] 3)) (some g) := q.by_ _
  have hz7 : w5.heap.size < (w5.alloc (.cells #[] 3)).heap.size := by simp
  clear q g5
  go_wp2_with fail
  generalize w5.alloc (.cells #[] 3) = w6 at *
  go_loopw [7, 8] (fun u i wr => ∃ (k : Nat) (l : List Int) (A9 : Option Addr) (c9 : Nat), k ≤ us.length ∧ i = .int .i64 k ∧ l.length ≤ k ∧ u = .slice A9 l.length c9 ∧ OInts wr w5.heap.size (.slice A9 l.length c9) l ∧ RD wr g (0 + 30 + 2 + k) ∧ w5.grownBy wr (some g)) (fun _ i _ => us.length - (intOf i).toNat)
  case atStart => exact ⟨0, [], _, _, Nat.zero_le _, rfl, Nat.zero_le _, rfl, o9, hr3, E0⟩
  case round =>
    clear o9 hr3 E0
    obtain ⟨k, l, A9, c9, hk, rfl, hlk, rfl, o9, hr3, E0⟩ := hrel
    have hzr := E0.size
    by_cases hlt : k < us.length
    · have hk2 : (k : Int) < (us.length : Int) := by omega
      have hk3 : (0 : Int) ≤ (k : Int) := by omega
      go_wp2_with fail
      refine (pick_c g (0 + 30 + 2 + k) 2 _ hr3 (by omega) (by omega) (by omega)).mono ?_
      rintro e w7 ⟨⟨x, hx, rfl⟩, hr7, b7⟩
      have o10 : OInts w7 w5.heap.size (.slice A9 l.length c9) l := own_kept o9 b7 (fun k hk e => by have := own_blk o9 k hk; injection e with e; omega)
      have E7 := by_trans E0 b7
      have hz8 := E7.size
      clear b7 o9 hr3 E0
      have IU : Ints w7 A5 us := OInts.ints rfl (show OInts w7 w4.heap.size (.slice A5 us.length c5) us from own_kept o5 E7 (fun k hk e => by have := own_blk o5 k hk; injection e with e; omega))
      by_cases hx0 : (x : Int) = 0
      · obtain ⟨b, off, rfl, c0⟩ := IU.at_ hlt
        have hb0 : ((x : Int) == 0) = true := by simp [hx0]
        clear hx0
        go_wp2_with (at_builtin; go_must (refine wpList_append_src _ rfl _ _ 22 rfl w5.heap.size 3 i0 _ 1 8 Try.underlying22 hi hz0 hz1 hz2 rfl (by omega) _ l.length (l.map (Value.int .i64)) rfl (own_grow o10 (by repeat (first | exact Grow.refl _ | assumption | refine Grow.alloc ?_ _ | refine Grow.drew ?_ | refine Grow.drewN ?_ _ | refine Grow.trans ?_ (by assumption) | refine Grow.below ?_ (by assumption) (by first | exact Nat.le_refl _ | omega)))) _ 1 1 [.int .i64 us[k]] rfl rfl (Cells.block (heap_alloc_new _ _)) (by intro u hu; rw [List.mem_singleton.1 hu]; rfl) (by unfold maxLen; omega) (by omega) (by simp; omega) (l.length + 1) rfl ((l ++ [us[k]]).map (Value.int .i64)) (by simp) ?_; intro A3 c3 w3 ho3 _ _ hb3))
        go_roundw
        case rel => exact ⟨k + 1, l ++ [us[k]], A3, c3, by omega, by go_num, by rw [List.length_append]; simp; omega, by simp, oints_snoc ho3, (hr7.grow (by repeat (first | exact Grow.refl _ | assumption | refine Grow.alloc ?_ _ | refine Grow.drew ?_ | refine Grow.drewN ?_ _ | refine Grow.trans ?_ (by assumption) | refine Grow.below ?_ (by assumption) (by first | exact Nat.le_refl _ | omega)))).below hb3 (by omega), by_below (by_grow E7 (by repeat (first | exact Grow.refl _ | assumption | refine Grow.alloc ?_ _ | refine Grow.drew ?_ | refine Grow.drewN ?_ _ | refine Grow.trans ?_ (by assumption) | refine Grow.below ?_ (by assumption) (by first | exact Nat.le_refl _ | omega)))) hb3 (by omega)⟩
        case measure => simp [intOf]; omega
      · have hb0 : ((x : Int) == 0) = false := by simp; omega
        clear hx0
        go_wp2_with fail
        go_roundw
        case rel => exact ⟨k + 1, l, A9, c9, by omega, by go_num, by omega, rfl, o10, hr7, E7⟩
        case measure => simp [intOf]; omega
    · have hk2 : ¬ (k : Int) < (us.length : Int) := by omega
      have hlb : l.length ≤ 8 := by omega
      go_wp2_with fail
      refine (pick_c g (0 + 30 + 2 + k) 16 _ hr3 (by omega) (by omega) (by omega)).mono ?_
      rintro e w7 ⟨⟨x, hx, rfl⟩, hr7, b7⟩
      have o10 : OInts w7 w5.heap.size (.slice A9 l.length c9) l := own_kept o9 b7 (fun k hk e => by have := own_blk o9 k hk; injection e with e; omega)
      have E7 := by_trans E0 b7
      have hz8 := E7.size
      clear b7 o9 hr3 E0
      by_cases hx0 : (x : Int) = 0
      · have hb0 : ((x : Int) == 0) = true := by simp [hx0]
        clear hx0
        go_wp2_with fail
        refine (l2Place_c g _ _ hr7 (by omega)).mono ?_
        rintro e w8 ⟨⟨p, hp, rfl⟩, hr8, b8⟩
        have o11 : OInts w8 w5.heap.size (.slice A9 l.length c9) l := own_kept o10 b8 (fun k hk e => by have := own_blk o10 k hk; injection e with e; omega)
        have E8 := by_trans E7 b8
        have hz9 := E8.size
        clear b8 o10 hr7 E7
        go_wp2_with ((at_builtin; go_must (refine wpList_append_src _ rfl _ _ 22 rfl w5.heap.size 3 i0 _ 1 8 Try.underlying22 hi hz0 hz1 hz2 rfl (by omega) _ l.length (l.map (Value.int .i64)) rfl (own_grow o11 (by repeat (first | exact Grow.refl _ | assumption | refine Grow.alloc ?_ _ | refine Grow.drew ?_ | refine Grow.drewN ?_ _ | refine Grow.trans ?_ (by assumption) | refine Grow.below ?_ (by assumption) (by first | exact Nat.le_refl _ | omega)))) _ 1 1 [.int .i64 p] rfl rfl (Cells.block (heap_alloc_new _ _)) (by intro u hu; rw [List.mem_singleton.1 hu]; rfl) (by unfold maxLen; omega) (by omega) (by simp; omega) (l.length + 1) rfl ((l ++ [p]).map (Value.int .i64)) (by simp) ?_; intro A3 c3 w3 ho3 _ _ hb3)); have E9 := by_below (by_grow E8 (by repeat (first | exact Grow.refl _ | assumption | refine Grow.alloc ?_ _ | refine Grow.drew ?_ | refine Grow.drewN ?_ _ | refine Grow.trans ?_ (by assumption) | refine Grow.below ?_ (by assumption) (by first | exact Nat.le_refl _ | omega)))) hb3 (Nat.le_refl _); obtain ⟨j0, j1, _, _⟩ := (y0.kept E9 (by intro e; injection e with e; omega)).facts; obtain ⟨k0, k1, _, _⟩ := (y5.kept E9 (by intro e; injection e with e; omega)).facts)
        have o12 : OInts w3 w5.heap.size (.slice A3 (l ++ [p]).length c3) (l ++ [p]) := oints_snoc ho3
        have G7 := hG.grown E9 (fun k hk => by injection hk with hk; omega)
        have S7 := o3.by_ E9 (by omega)
        refine bodyPost_ret (v := .tuple #[sval AS B3 cS d3 ⟨v, h⟩, .slice A3 (l ++ [p]).length c3]) (by simp [results, Try.results35, go_sem, j0, j1]) rfl ⟨AS, B3, cS, d3, v, h, A3, c3, l ++ [p], rfl, ?_, ⟨hv8, hh9⟩, ?_, by simp; omega, ?_⟩
        · exact ((S7.far (by show w.heap.size < w2.heap.size; omega) _).far (by show w.heap.size < w2.heap.size; omega) _).lo (by omega)
        · exact OInts.ints rfl (own_far_lo (own_far_lo o12 (by show w.heap.size < w5.heap.size; omega) _) (by show w.heap.size < w5.heap.size; omega) _)
        · exact (G7.setCell (Nat.le_refl _) _).setCell (Nat.le_refl _) _
      · have hb0 : ((x : Int) == 0) = false := by simp; omega
        clear hx0
        have y0' := y0.kept E7 (by intro e; injection e with e; omega)
        have y5' := y5.kept E7 (by intro e; injection e with e; omega)
        obtain ⟨j0, j1, _, _⟩ := y0'.facts
        obtain ⟨k0, k1, _, _⟩ := y5'.facts
        have G7 := hG.grown E7 (fun k hk => by injection hk with hk; omega)
        have S7 := o3.by_ E7 (by omega)
        have hll : l.length ≤ 100 := by omega
        go_wp2_with fail
        refine bodyPost_ret (v := .tuple #[sval AS B3 cS d3 ⟨v, h⟩, .slice A9 l.length c9]) (by simp [results, Try.results35, go_sem, j0, j1]) rfl ⟨AS, B3, cS, d3, v, h, A9, c9, l, rfl, ?_, ⟨hv8, hh9⟩, ?_, hll, ?_⟩
        · exact ((S7.far (by show w.heap.size < w2.heap.size; omega) _).far (by show w.heap.size < w2.heap.size; omega) _).lo (by omega)
        · exact OInts.ints rfl (own_far_lo (own_far_lo o10 (by show w.heap.size < w5.heap.size; omega) _) (by show w.heap.size < w5.heap.size; omega) _)
        · exact (G7.setCell (Nat.le_refl _) _).setCell (Nat.le_refl _) _

end Go.Proofs.Ytcipmmieiafpbaa
