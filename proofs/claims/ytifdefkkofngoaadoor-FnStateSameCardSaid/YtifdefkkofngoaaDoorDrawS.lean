/- The draws of states: what they return is well formed and can be read. No conditions but the bounds on what the reader has picked. -/
import Derived.Test.YtifdefkkofngoaaDoorSt6
import Derived.Test.YtifdefkkofngoaaDoorStM
import Derived.Test.YtifdefkkofngoaaDoorDrawF
namespace Go.Proofs.YtifdefkkofngoaaDoor
open Go.RowKit
set_option linter.unusedVariables false

theorem ointsSnoc {w : World} {lo c : Nat} {A : Option Addr} {l : List Int} {x : Int} (h : w.ownsRow lo 3 1 (.slice A (l.length + 1) c) (l.length + 1) ((l ++ [x]).map (Value.int .i64))) : OInts w lo (.slice A (l ++ [x]).length c) (l ++ [x]) := by
  show World.ownsRow _ _ _ _ (.slice _ (l ++ [x]).length _) (l ++ [x]).length _
  rw [List.length_append]; exact h
theorem ointsNil (w : World) (lo : Nat) : OInts w lo (.slice none ([] : List Int).length 0) [] := ⟨rfl, .inl ⟨rfl, rfl⟩⟩
theorem own_below {w w' : World} {lo E sz n B : Nat} {v : Value} {xs : List Value} (h : w.ownsRow lo E sz v n xs) (b : Below B w w') (hB : ∀ k, v.ownBlock = some k → k < B) : w'.ownsRow lo E sz v n xs := by
  obtain ⟨h1, h2⟩ := h
  refine ⟨h1, ?_⟩
  rcases h2 with hn | ⟨g, cap, cur, hv, hb, hgg, rest⟩
  · exact .inl hn
  · exact .inr ⟨g, cap, cur, hv, hb, (b.block g (hB g (by rw [hv]; rfl))).trans hgg, rest⟩
theorem Box2.below {w w' : World} {g E B : Nat} {x y : Value} (h : Box2 w g E x y) (b : Below B w w') (hB : g < B) : Box2 w' g E x y := (b.block g hB).trans h
theorem OSt.below {w w' : World} {lo B : Nat} {A C : Option Addr} {c d : Nat} {s : Pl.St} (h : OSt w lo A C c d s) (b : Below B w w') (hB : w.heap.size ≤ B) : OSt w' lo A C c d s := h.grow (b.mono hB)
theorem RD.far {w : World} {g q : Nat} (h : RD w g q) {p : Addr} (hp : g < p.block) (u : Value) : RD (w.setCell p u) g q := h.below (Below.setCell (Below.refl (g + 1) w) (by show g + 1 ≤ p.block; omega) u) (by omega)
theorem OSt.by_ {w w' : World} {lo g : Nat} {A C : Option Addr} {c d : Nat} {s : Pl.St} (h : OSt w lo A C c d s) (b : w.grownBy w' (some g)) (hg : g < lo) : OSt w' lo A C c d s :=
  h.kept b (fun k hk => by injection hk with hk; omega)
theorem by_set {a w : World} {g : Nat} (h : a.grownBy w (some g)) {p : Addr} (hp : a.heap.size ≤ p.block) (u : Value) : a.grownBy (w.setCell p u) (some g) := by_below h (Below.setCell (Below.refl a.heap.size w) hp u) (Nat.le_refl _)

set_option maxRecDepth 100000 in
set_option maxHeartbeats 1600000 in
theorem l2Blank_c (w : World) : Calls Tryd.prog 45 #[] w fun e w' => ∃ A B c d v h, e = .returned (sval A B c d ⟨v, h⟩) ∧ OSt w' w.heap.size A B c d ⟨v, h⟩ ∧ v.length = 8 ∧ h.length = 8 ∧ Grow w w' := by
  obtain ⟨i0, hi, hz0, hz1, hz2⟩ := info_parts int_info
  have y0 := (Box2.new w 27 (.slice none 0 0) (.slice none 0 0)).grow (show Grow _ ((w.alloc (.cells #[.slice none 0 0, .slice none 0 0] 27)).alloc (.cells #[.slice none 0 0, .slice none 0 0] 27)) from Grow.alloc (Grow.refl _) _)
  have y1 := Box2.new (w.alloc (.cells #[.slice none 0 0, .slice none 0 0] 27)) 27 (.slice none 0 0) (.slice none 0 0)
  have G1 : Grow w ((w.alloc (.cells #[.slice none 0 0, .slice none 0 0] 27)).alloc (.cells #[.slice none 0 0, .slice none 0 0] 27)) := (by repeat (first | exact Grow.refl _ | assumption | refine Grow.alloc ?_ _ | refine Grow.drew ?_ | refine Grow.drewN ?_ _ | refine Grow.trans ?_ (by assumption) | refine Grow.below ?_ (by assumption) (by first | exact Nat.le_refl _ | omega)))
  have hsz : w.heap.size + 2 ≤ ((w.alloc (.cells #[.slice none 0 0, .slice none 0 0] 27)).alloc (.cells #[.slice none 0 0, .slice none 0 0] 27)).heap.size := by simp
  simp only [World.size_alloc] at y1
  go_enter Tryd.func45, Tryd.ntmps45
  go_wp2_with fail
  generalize (w.alloc (.cells #[.slice none 0 0, .slice none 0 0] 27)).alloc (.cells #[.slice none 0 0, .slice none 0 0] 27) = w1 at *
  go_loopw [2] (fun i wr => ∃ k : Nat, k ≤ 8 ∧ i = .int .i64 k ∧ Grow w wr ∧ w.heap.size + 2 ≤ wr.heap.size ∧ Box2 wr w.heap.size 27 (.slice none 0 0) (.slice none 0 0) ∧ ∃ (l : List Int) (A : Option Addr) (c : Nat), l.length = k ∧ Box2 wr (w.heap.size + 1) 27 (.slice A l.length c) (.slice none 0 0) ∧ OInts wr (w.heap.size + 2) (.slice A l.length c) l) (fun i _ => 8 - (intOf i).toNat)
  case atStart => exact ⟨0, by omega, rfl, G1, hsz, y0, [], none, 0, rfl, y1, ointsNil _ _⟩
  case round =>
    clear y0 y1 G1 hsz
    obtain ⟨k, hk, rfl, hg, hs, y0, l, A, c, hl, y1, o1⟩ := hrel
    obtain ⟨k0, k1, e0, e1⟩ := y1.facts
    have hl8 : l.length ≤ 8 := by omega
    have HL := Lib.hid hl
    clear hl
    by_cases hlt : k < 8
    · have hk1 : (k : Int) < 8 := by omega
      go_wp2_with ((at_builtin; go_must (refine wpList_append_src _ rfl _ _ 22 rfl (w.heap.size + 2) 3 i0 _ 1 8 Tryd.underlying22 hi hz0 hz1 hz2 rfl (by omega) _ l.length (l.map (Value.int .i64)) rfl (own_grow o1 (by repeat (first | exact Grow.refl _ | assumption | refine Grow.alloc ?_ _ | refine Grow.drew ?_ | refine Grow.drewN ?_ _ | refine Grow.trans ?_ (by assumption) | refine Grow.below ?_ (by assumption) (by first | exact Nat.le_refl _ | omega)))) _ 1 1 [.int .i64 0] rfl rfl (Cells.block (heap_alloc_new _ _)) (by intro u hu; rw [List.mem_singleton.1 hu]; rfl) (by unfold maxLen; omega) (by omega) (by simp; omega) (l.length + 1) rfl ((l ++ [0]).map (Value.int .i64)) (by simp) ?_; intro A3 c3 w3 ho3 _ _ hb3)); have z1 : Box2 w3 (w.heap.size + 1) 27 (.slice A l.length c) (.slice none 0 0) := (y1.grow (show Grow wr (wr.alloc _) from Grow.alloc (Grow.refl _) _)).below hb3 (by omega); obtain ⟨j0, j1, f0, f1⟩ := z1.facts)
      go_roundw
      case rel =>
        have hG : Grow w w3 := (hg.alloc _).below hb3 (by omega)
        have hs3 := hb3.size
        simp only [World.size_alloc] at hs3
        refine ⟨k + 1, by omega, by go_num, hG.setCell (by show w.heap.size ≤ w.heap.size + 1; omega) _, by show w.heap.size + 2 ≤ (w3.setCell _ _).heap.size; simp [World.setCell]; omega, ?_, l ++ [0], A3, c3, by simp [HL.out], by simpa using z1.set0 (.slice A3 (l.length + 1) c3), ointsSnoc (own_far_lo ho3 (by show w.heap.size + 1 < w.heap.size + 2; omega) _)⟩
        exact ((y0.grow (Grow.alloc (Grow.refl _) _)).below hb3 (by omega)).far (by show w.heap.size ≠ w.heap.size + 1; omega) _
      case measure => simp [intOf]; omega
    · have hk1 : (8 : Int) ≤ (k : Int) := by omega
      have HL8 := Lib.hid (show l.length = 8 by have := HL.out; omega)
      go_wp2_with fail
      clear k0 k1 e0 e1
      obtain ⟨wo, rfl⟩ : ∃ wo : World, wo = wr := ⟨_, rfl⟩
      have bA := own_bd o1
      go_loopw [3] (fun i wr => ∃ k : Nat, k ≤ 8 ∧ i = .int .i64 k ∧ Grow w wr ∧ wo.heap.size ≤ wr.heap.size ∧ Box2 wr w.heap.size 27 (.slice none 0 0) (.slice none 0 0) ∧ OInts wr (w.heap.size + 2) (.slice A l.length c) l ∧ ∃ (m : List Int) (B : Option Addr) (d : Nat), m.length = k ∧ Box2 wr (w.heap.size + 1) 27 (.slice A l.length c) (.slice B m.length d) ∧ OInts wr wo.heap.size (.slice B m.length d) m) (fun i _ => 8 - (intOf i).toNat)
      case atStart => exact ⟨0, by omega, rfl, hg, Nat.le_refl _, y0, o1, [], none, 0, rfl, y1, ointsNil _ _⟩
      case round =>
        clear hg y0 y1 o1
        obtain ⟨j, hj, rfl, hg, hsr, y0, o1, m, B, d, hm, y1, o2⟩ := hrel
        obtain ⟨k0, k1, e0, e1⟩ := y1.facts
        have hm8 : m.length ≤ 8 := by omega
        have HM := Lib.hid hm
        clear hm
        by_cases hjl : j < 8
        · have hj1 : (j : Int) < 8 := by omega
          go_wp2_with ((at_builtin; go_must (refine wpList_append_src _ rfl _ _ 22 rfl wo.heap.size 3 i0 _ 1 8 Tryd.underlying22 hi hz0 hz1 hz2 rfl (by omega) _ m.length (m.map (Value.int .i64)) rfl (own_grow o2 (by repeat (first | exact Grow.refl _ | assumption | refine Grow.alloc ?_ _ | refine Grow.drew ?_ | refine Grow.drewN ?_ _ | refine Grow.trans ?_ (by assumption) | refine Grow.below ?_ (by assumption) (by first | exact Nat.le_refl _ | omega)))) _ 1 1 [.int .i64 (-1)] rfl rfl (Cells.block (heap_alloc_new _ _)) (by intro u hu; rw [List.mem_singleton.1 hu]; rfl) (by unfold maxLen; omega) (by omega) (by simp; omega) (m.length + 1) rfl ((m ++ [(-1)]).map (Value.int .i64)) (by simp) ?_; intro A3 c3 w3 ho3 _ _ hb3)); have z1 : Box2 w3 (w.heap.size + 1) 27 (.slice A l.length c) (.slice B m.length d) := (y1.grow (show Grow wr (wr.alloc _) from Grow.alloc (Grow.refl _) _)).below hb3 (by omega); obtain ⟨j0, j1, f0, f1⟩ := z1.facts)
          go_roundw
          case rel =>
            have hG : Grow w w3 := (hg.alloc _).below hb3 (by omega)
            have hs3 := hb3.size
            simp only [World.size_alloc] at hs3
            refine ⟨j + 1, by omega, by go_num, hG.setCell (by show w.heap.size ≤ w.heap.size + 1; omega) _, by show wo.heap.size ≤ (w3.setCell _ _).heap.size; simp [World.setCell]; omega, ?_, ?_, m ++ [-1], A3, c3, by simp [HM.out], by simpa using z1.set1 (.slice A3 (m.length + 1) c3), ointsSnoc (own_far_lo ho3 (by show w.heap.size + 1 < wo.heap.size; omega) _)⟩
            · exact ((y0.grow (Grow.alloc (Grow.refl _) _)).below hb3 (by omega)).far (by show w.heap.size ≠ w.heap.size + 1; omega) _
            · exact own_far_lo (own_below (own_grow o1 (Grow.alloc (Grow.refl _) _)) hb3 (fun k hk => (bA k hk).2)) (by show w.heap.size + 1 < w.heap.size + 2; omega) _
          case measure => simp [intOf]; omega
        · have hj1 : (8 : Int) ≤ (j : Int) := by omega
          have HM8 := Lib.hid (show m.length = 8 by have := HM.out; omega)
          obtain ⟨j0, j1, f0, f1⟩ := y0.facts
          go_wp2_with fail
          refine bodyPost_ret (v := .agg #[.slice A l.length c, .slice B m.length d]) (by simp [results, Tryd.results45, go_sem, j0, j1]) rfl ⟨A, B, c, d, l, m, rfl, ⟨?_, ?_, ?_⟩, HL8.out, HM8.out, ?_⟩
          · exact own_lo (own_far_lo (own_far_lo o1 (by show w.heap.size < w.heap.size + 2; omega) _) (by show w.heap.size < w.heap.size + 2; omega) _) (by omega)
          · exact own_lo (own_far_lo (own_far_lo o2 (by show w.heap.size < wo.heap.size; omega) _) (by show w.heap.size < wo.heap.size; omega) _) (by omega)
          · exact Bd.apart bA (own_bd o2) (.inl (Nat.le_refl _))
          · exact (hg.setCell (Nat.le_refl _) _).setCell (Nat.le_refl _) _


set_option maxRecDepth 100000 in
set_option maxHeartbeats 3200000 in
theorem l2Draw_c (g q : Nat) (w : World) (hr : RD w g q) (hq : q ≤ 800000) :
    Calls Tryd.prog 60 #[.pointer (some ⟨g, 0, none⟩)] w fun e w' => (∃ A B c d v h, e = .returned (sval A B c d ⟨v, h⟩) ∧ OSt w' w.heap.size A B c d ⟨v, h⟩ ∧ v.length = 8 ∧ h.length = 8) ∧ RD w' g (q + 30) ∧ w.grownBy w' (some g) := by
  have hlt := hr.lt
  have y0 := Box2.new w 27 (.slice none 0 0) (.slice none 0 0)
  go_enter Tryd.func60, Tryd.ntmps60
  go_wp2_with fail
  refine (l2Blank_c _).mono ?_
  rintro e w1 ⟨A, B, c, d, v, h, rfl, o1, hv8, hh8, g1⟩
  have y1 := y0.grow g1
  have hr1 := hr.grow (show Grow w w1 from (by repeat (first | exact Grow.refl _ | assumption | refine Grow.alloc ?_ _ | refine Grow.drew ?_ | refine Grow.drewN ?_ _ | refine Grow.trans ?_ (by assumption) | refine Grow.below ?_ (by assumption) (by first | exact Nat.le_refl _ | omega))))
  have b1 : w.grownBy w1 (some g) := (show Grow w w1 from (by repeat (first | exact Grow.refl _ | assumption | refine Grow.alloc ?_ _ | refine Grow.drew ?_ | refine Grow.drewN ?_ _ | refine Grow.trans ?_ (by assumption) | refine Grow.below ?_ (by assumption) (by first | exact Nat.le_refl _ | omega)))).by_ _
  have hsz1 := g1.le
  simp only [World.size_alloc] at hsz1 o1
  have V8 := Lib.hid hv8
  have H8 := Lib.hid hh8
  clear hr y0 g1 hv8 hh8
  go_wp2_with fail
  go_loopw [4] (fun i wr => ∃ k : Nat, k ≤ 8 ∧ i = .int .i64 k ∧ RD wr g (q + k) ∧ w.grownBy wr (some g) ∧ w1.heap.size < wr.heap.size ∧ Box2 wr w.heap.size 27 (.slice none 0 0) (.slice none 0 0) ∧ ∃ u : List Int, Hid (u.length = 8) ∧ Box2 wr w1.heap.size 27 (.slice A u.length c) (.slice B h.length d) ∧ OSt wr (w.heap.size + 1) A B c d ⟨u, h⟩ ∧ Bd (w.heap.size + 1) w1.heap.size (.slice A u.length c) ∧ Bd (w.heap.size + 1) w1.heap.size (.slice B h.length d)) (fun i _ => 8 - (intOf i).toNat)
  case atStart => exact ⟨0, by omega, rfl, hr1.grow (by repeat (first | exact Grow.refl _ | assumption | refine Grow.alloc ?_ _ | refine Grow.drew ?_ | refine Grow.drewN ?_ _ | refine Grow.trans ?_ (by assumption) | refine Grow.below ?_ (by assumption) (by first | exact Nat.le_refl _ | omega))), by_alloc b1 _, by simp, y1.grow (by repeat (first | exact Grow.refl _ | assumption | refine Grow.alloc ?_ _ | refine Grow.drew ?_ | refine Grow.drewN ?_ _ | refine Grow.trans ?_ (by assumption) | refine Grow.below ?_ (by assumption) (by first | exact Nat.le_refl _ | omega))), v, V8, Box2.new _ _ _ _, o1.grow (by repeat (first | exact Grow.refl _ | assumption | refine Grow.alloc ?_ _ | refine Grow.drew ?_ | refine Grow.drewN ?_ _ | refine Grow.trans ?_ (by assumption) | refine Grow.below ?_ (by assumption) (by first | exact Nat.le_refl _ | omega))), o1.bdv, o1.bdh⟩
  case round =>
    clear hr1 b1 y1 o1
    obtain ⟨k, hk, rfl, hr1, b1, hsz, y0, u, U8, y1, o1, ba, bb⟩ := hrel
    have hu8 : u.length = 8 := U8.out
    by_cases hlt8 : k < 8
    · have hk1 : (k : Int) < 8 := by omega
      have hk0 : (0 : Int) ≤ (k : Int) := by omega
      have hku : k < u.length := by omega
      have hku2 : (k : Int) < (u.length : Int) := by omega
      obtain ⟨gA, rfl, hgl, hgs⟩ := own_some o1.v (by show 0 < u.length; omega)
      have hgA := ba gA rfl
      clear hu8
      go_wp2_with fail
      obtain ⟨k0, k1, e0, e1⟩ := y1.facts
      have hlit := fun W => lit_own W [1, 2, 0, 3, 4, 1, 5] _ rfl (by simp)
      go_region_held3 (fun W => W.cell? ⟨w1.heap.size, 0, none⟩ = some (.slice (some ⟨gA, 0, none⟩) u.length c))
        (first | go_keep | exact g4.cell (by assumption) (by intro e; injection e with e; exact absurd (show w1.heap.size = g from e) (by omega)) | exact (World.cell?_setCell_other _ _ _ _ (by intro e; injection e with e; exact absurd e (by omega))).trans (by assumption))
        ((go_at_call 96; refine (num_c g (q + k) 7 wr.heap.size _ [1, 2, 0, 3, 4, 1, 5] _ (hr1.grow (by repeat (first | exact Grow.refl _ | assumption | refine Grow.alloc ?_ _ | refine Grow.drew ?_ | refine Grow.drewN ?_ _ | refine Grow.trans ?_ (by assumption) | refine Grow.below ?_ (by assumption) (by first | exact Nat.le_refl _ | omega)))) (by omega) (by simp) (by simp) (own_grow (hlit _) (by repeat (first | exact Grow.refl _ | assumption | refine Grow.alloc ?_ _ | refine Grow.drew ?_ | refine Grow.drewN ?_ _ | refine Grow.trans ?_ (by assumption) | refine Grow.below ?_ (by assumption) (by first | exact Nat.le_refl _ | omega)))) (by omega)).mono ?_; rintro e w4 ⟨⟨x, hx, rfl⟩, hr4, g4⟩; have o4 := (o1.grow (show Grow wr _ from (by repeat (first | exact Grow.refl _ | assumption | refine Grow.alloc ?_ _ | refine Grow.drew ?_ | refine Grow.drewN ?_ _ | refine Grow.trans ?_ (by assumption) | refine Grow.below ?_ (by assumption) (by first | exact Nat.le_refl _ | omega))))).by_ g4 (by omega); obtain ⟨z0, c0⟩ : ∃ z, w4.cell? ⟨gA, k, none⟩ = some z := ⟨_, own_cellAt o4.v (show (u.map (Value.int .i64))[k]? = some (.int .i64 u[k]) by simp [hku])⟩; have f0 := World.ownsRow.frozenAt o4.v k))
      have y4 := (y1.grow (show Grow wr _ from (by repeat (first | exact Grow.refl _ | assumption | refine Grow.alloc ?_ _ | refine Grow.drew ?_ | refine Grow.drewN ?_ _ | refine Grow.trans ?_ (by assumption) | refine Grow.below ?_ (by assumption) (by first | exact Nat.le_refl _ | omega))))).kept g4 (by intro e; injection e with e; omega)
      have y5 := (y0.grow (show Grow wr _ from (by repeat (first | exact Grow.refl _ | assumption | refine Grow.alloc ?_ _ | refine Grow.drew ?_ | refine Grow.drewN ?_ _ | refine Grow.trans ?_ (by assumption) | refine Grow.below ?_ (by assumption) (by first | exact Nat.le_refl _ | omega))))).kept g4 (by intro e; injection e with e; omega)
      have b4 : w.grownBy w4 (some g) := by_trans (by_grow b1 (show Grow wr _ from (by repeat (first | exact Grow.refl _ | assumption | refine Grow.alloc ?_ _ | refine Grow.drew ?_ | refine Grow.drewN ?_ _ | refine Grow.trans ?_ (by assumption) | refine Grow.below ?_ (by assumption) (by first | exact Nat.le_refl _ | omega))))) g4
      have hs4 := g4.size
      simp only [World.size_alloc, World.size_drew] at hs4
      clear hlit g4 hr1 b1 y0 y1 o1 k0 k1 e0 e1
      go_wp2
      go_roundw
      case rel =>
        refine ⟨k + 1, by omega, by go_num, (hr4.far (by show g < gA; omega) _).more (by omega), by_set b4 (by show w.heap.size ≤ gA; omega) _, by show w1.heap.size < (w4.setCell _ _).heap.size; simp [World.setCell]; omega, y5.far (by show w.heap.size ≠ gA; omega) _, u.set k x, Lib.hid (by simpa using U8.out), ?_, o4.setV x, ?_, bb⟩
        · rw [List.length_set]; exact y4.far (by show w1.heap.size ≠ gA; omega) _
        · rw [List.length_set]; exact ba
      case measure => simp [intOf]; omega
    · have hk1 : (8 : Int) ≤ (k : Int) := by omega
      clear hu8
      go_wp2_with fail
      have hlit := lit_own wr [3, 4, 2, 5, 1, 0, 8] _ rfl (by simp)
      refine (num_c g (q + k) 7 wr.heap.size _ [3, 4, 2, 5, 1, 0, 8] _ (hr1.grow (by repeat (first | exact Grow.refl _ | assumption | refine Grow.alloc ?_ _ | refine Grow.drew ?_ | refine Grow.drewN ?_ _ | refine Grow.trans ?_ (by assumption) | refine Grow.below ?_ (by assumption) (by first | exact Nat.le_refl _ | omega)))) (by omega) (by simp) (by simp) hlit (by omega)).mono ?_
      rintro e w2 ⟨⟨n0, hn0, rfl⟩, hr2, g2⟩
      have hn8 : 0 ≤ n0 ∧ n0 ≤ 8 := by simp at hn0; omega
      obtain ⟨n, rfl⟩ := Int.eq_ofNat_of_zero_le hn8.1
      have hnn : n ≤ 8 := by omega
      have o2 := (o1.grow (show Grow wr _ from (by repeat (first | exact Grow.refl _ | assumption | refine Grow.alloc ?_ _ | refine Grow.drew ?_ | refine Grow.drewN ?_ _ | refine Grow.trans ?_ (by assumption) | refine Grow.below ?_ (by assumption) (by first | exact Nat.le_refl _ | omega))))).by_ g2 (by omega)
      have y4 := (y1.grow (show Grow wr _ from (by repeat (first | exact Grow.refl _ | assumption | refine Grow.alloc ?_ _ | refine Grow.drew ?_ | refine Grow.drewN ?_ _ | refine Grow.trans ?_ (by assumption) | refine Grow.below ?_ (by assumption) (by first | exact Nat.le_refl _ | omega))))).kept g2 (by intro e; injection e with e; omega)
      have y5 := (y0.grow (show Grow wr _ from (by repeat (first | exact Grow.refl _ | assumption | refine Grow.alloc ?_ _ | refine Grow.drew ?_ | refine Grow.drewN ?_ _ | refine Grow.trans ?_ (by assumption) | refine Grow.below ?_ (by assumption) (by first | exact Nat.le_refl _ | omega))))).kept g2 (by intro e; injection e with e; omega)
      have b2 : w.grownBy w2 (some g) := by_trans (by_alloc b1 _) g2
      have hs2 := g2.size
      simp only [World.size_alloc] at hs2
      clear hlit g2 hr1 b1 y0 y1 o1 hn0 hn8
      go_wp2_with fail
      go_loopw [5] (fun i wr => ∃ m : Nat, m ≤ 8 ∧ i = .int .i64 m ∧ RD wr g (q + 9 + 2 * (8 - m)) ∧ w.grownBy wr (some g) ∧ w1.heap.size < wr.heap.size ∧ Box2 wr w.heap.size 27 (.slice none 0 0) (.slice none 0 0) ∧ ∃ z : List Int, Hid (z.length = 8) ∧ Box2 wr w1.heap.size 27 (.slice A u.length c) (.slice B z.length d) ∧ OSt wr (w.heap.size + 1) A B c d ⟨u, z⟩ ∧ Bd (w.heap.size + 1) w1.heap.size (.slice A u.length c) ∧ Bd (w.heap.size + 1) w1.heap.size (.slice B z.length d)) (fun i _ => (intOf i).toNat)
      case atStart => exact ⟨n, hnn, rfl, hr2.more (by omega), b2, by omega, y5, h, H8, y4, o2, ba, bb⟩
      case round =>
        clear hr2 b2 y4 y5 o2 bb
        obtain ⟨m, hm, rfl, hr1, b1, hsz, y0, z, Z8, y1, o1, ba, bb⟩ := hrel
        have hz8 : z.length = 8 := Z8.out
        by_cases hm0 : 0 < m
        · have hm1 : (0 : Int) < (m : Int) := by omega
          obtain ⟨gB, rfl, hgl, hgs⟩ := own_some o1.h (by show 0 < z.length; omega)
          have hgB := bb gB rfl
          have hz1 : (8 : Int) ≤ (z.length : Int) := by omega
          clear hz8
          go_wp2_with fail
          obtain ⟨k0, k1, e0, e1⟩ := y1.facts
          have hlit := fun W => lit_own W [0, 2, 3, 1, 4, 5] _ rfl (by simp)
          go_region_held3 (fun W => W.cell? ⟨w1.heap.size, 1, none⟩ = some (.slice (some ⟨gB, 0, none⟩) z.length d))
            (first | go_keep | exact g4.cell (by assumption) (by intro e; injection e with e; exact absurd (show w1.heap.size = g from e) (by omega)) | exact g3.cell (by assumption) (by intro e; injection e with e; exact absurd (show w1.heap.size = g from e) (by omega)) | exact (World.cell?_setCell_other _ _ _ _ (by intro e; injection e with e; exact absurd e (by omega))).trans (by assumption))
            (first
              | (go_at_call 61; refine (pick_c g (q + 9 + 2 * (8 - m)) 8 _ (hr1.grow (by repeat (first | exact Grow.refl _ | assumption | refine Grow.alloc ?_ _ | refine Grow.drew ?_ | refine Grow.drewN ?_ _ | refine Grow.trans ?_ (by assumption) | refine Grow.below ?_ (by assumption) (by first | exact Nat.le_refl _ | omega)))) (by omega) (by omega) (by omega)).mono ?_; rintro e w3 ⟨⟨j, hj, rfl⟩, hr3, g3⟩; have hj0 : (0 : Int) ≤ (j : Int) := (by omega); have hj2 : (j : Int) < (z.length : Int) := (by omega))
              | (go_at_call 96; refine (num_c g (q + 9 + 2 * (8 - m) + 1) 6 wr.heap.size _ [0, 2, 3, 1, 4, 5] _ (hr3.grow (by repeat (first | exact Grow.refl _ | assumption | refine Grow.alloc ?_ _ | refine Grow.drew ?_ | refine Grow.drewN ?_ _ | refine Grow.trans ?_ (by assumption) | refine Grow.below ?_ (by assumption) (by first | exact Nat.le_refl _ | omega)))) (by omega) (by simp) (by simp) (by first | exact own_grow (own_kept (own_grow (hlit _) (by repeat (first | exact Grow.refl _ | assumption | refine Grow.alloc ?_ _ | refine Grow.drew ?_ | refine Grow.drewN ?_ _ | refine Grow.trans ?_ (by assumption) | refine Grow.below ?_ (by assumption) (by first | exact Nat.le_refl _ | omega)))) g3 (fun k hk e => by have := own_blk (hlit _) k hk; injection e with e; omega)) (by repeat (first | exact Grow.refl _ | assumption | refine Grow.alloc ?_ _ | refine Grow.drew ?_ | refine Grow.drewN ?_ _ | refine Grow.trans ?_ (by assumption) | refine Grow.below ?_ (by assumption) (by first | exact Nat.le_refl _ | omega))) | exact own_lo (own_grow (hlit _) (by repeat (first | exact Grow.refl _ | assumption | refine Grow.alloc ?_ _ | refine Grow.drew ?_ | refine Grow.drewN ?_ _ | refine Grow.trans ?_ (by assumption) | refine Grow.below ?_ (by assumption) (by first | exact Nat.le_refl _ | omega)))) (by have := g3.size; simp at this; omega)) (by omega)).mono ?_; rintro e w4 ⟨⟨x, hx, rfl⟩, hr4, g4⟩; have hjz : j < z.length := (by omega); have o3 := (o1.grow (show Grow wr _ from (by repeat (first | exact Grow.refl _ | assumption | refine Grow.alloc ?_ _ | refine Grow.drew ?_ | refine Grow.drewN ?_ _ | refine Grow.trans ?_ (by assumption) | refine Grow.below ?_ (by assumption) (by first | exact Nat.le_refl _ | omega))))).by_ g3 (by omega); have o4 := (o3.grow (show Grow w3 _ from (by repeat (first | exact Grow.refl _ | assumption | refine Grow.alloc ?_ _ | refine Grow.drew ?_ | refine Grow.drewN ?_ _ | refine Grow.trans ?_ (by assumption) | refine Grow.below ?_ (by assumption) (by first | exact Nat.le_refl _ | omega))))).by_ g4 (by omega); obtain ⟨z0, c0⟩ : ∃ y, w4.cell? ⟨gB, j, none⟩ = some y := ⟨_, own_cellAt o4.h (show (z.map (Value.int .i64))[j]? = some (.int .i64 z[j]) by simp [hjz])⟩; have f0 := World.ownsRow.frozenAt o4.h j))
          all_goals
            have y4 := (((y1.grow (show Grow wr _ from (by repeat (first | exact Grow.refl _ | assumption | refine Grow.alloc ?_ _ | refine Grow.drew ?_ | refine Grow.drewN ?_ _ | refine Grow.trans ?_ (by assumption) | refine Grow.below ?_ (by assumption) (by first | exact Nat.le_refl _ | omega))))).kept g3 (by intro e; injection e with e; omega)).grow (show Grow w3 _ from (by repeat (first | exact Grow.refl _ | assumption | refine Grow.alloc ?_ _ | refine Grow.drew ?_ | refine Grow.drewN ?_ _ | refine Grow.trans ?_ (by assumption) | refine Grow.below ?_ (by assumption) (by first | exact Nat.le_refl _ | omega))))).kept g4 (by intro e; injection e with e; omega)
            have y5 := (((y0.grow (show Grow wr _ from (by repeat (first | exact Grow.refl _ | assumption | refine Grow.alloc ?_ _ | refine Grow.drew ?_ | refine Grow.drewN ?_ _ | refine Grow.trans ?_ (by assumption) | refine Grow.below ?_ (by assumption) (by first | exact Nat.le_refl _ | omega))))).kept g3 (by intro e; injection e with e; omega)).grow (show Grow w3 _ from (by repeat (first | exact Grow.refl _ | assumption | refine Grow.alloc ?_ _ | refine Grow.drew ?_ | refine Grow.drewN ?_ _ | refine Grow.trans ?_ (by assumption) | refine Grow.below ?_ (by assumption) (by first | exact Nat.le_refl _ | omega))))).kept g4 (by intro e; injection e with e; omega)
            have b4 : w.grownBy w4 (some g) := by_trans (by_grow (by_trans (by_grow b1 (show Grow wr _ from (by repeat (first | exact Grow.refl _ | assumption | refine Grow.alloc ?_ _ | refine Grow.drew ?_ | refine Grow.drewN ?_ _ | refine Grow.trans ?_ (by assumption) | refine Grow.below ?_ (by assumption) (by first | exact Nat.le_refl _ | omega))))) g3) (show Grow w3 _ from (by repeat (first | exact Grow.refl _ | assumption | refine Grow.alloc ?_ _ | refine Grow.drew ?_ | refine Grow.drewN ?_ _ | refine Grow.trans ?_ (by assumption) | refine Grow.below ?_ (by assumption) (by first | exact Nat.le_refl _ | omega))))) g4
            have hs3 := g3.size
            have hs4 := g4.size
            simp only [World.size_alloc, World.size_drew] at hs3 hs4
            clear hlit g3 g4 hr1 hr3 b1 y0 y1 o1 o3 k0 k1 e0 e1
            go_wp2
            go_roundw
            case rel =>
              refine ⟨m - 1, by omega, congrArg (Value.int .i64) (by omega), (hr4.far (by show g < gB; omega) _).more (by omega), by_set b4 (by show w.heap.size ≤ gB; omega) _, by show w1.heap.size < (w4.setCell _ _).heap.size; simp [World.setCell]; omega, y5.far (by show w.heap.size ≠ gB; omega) _, z.set j x, Lib.hid (by simpa using Z8.out), ?_, o4.setH x, ba, ?_⟩
              · rw [List.length_set]; exact y4.far (by show w1.heap.size ≠ gB; omega) _
              · rw [List.length_set]; exact bb
            case measure => simp [intOf]; omega
        · have hm1 : (m : Int) ≤ 0 := by omega
          clear hz8
          obtain ⟨j0, j1, e0, e1⟩ := y0.facts
          obtain ⟨k0, k1, _, _⟩ := y1.facts
          go_wp2_with fail
          refine bodyPost_ret (v := .agg #[.slice A u.length c, .slice B z.length d]) (by simp [results, Tryd.results60, go_sem, j0, j1]) rfl ⟨⟨A, B, c, d, u, z, rfl, ?_, U8.out, Z8.out⟩, ?_, ?_⟩
          · exact ((o1.far (by show w.heap.size < w.heap.size + 1; omega) _).far (by show w.heap.size < w.heap.size + 1; omega) _).lo (by omega)
          · exact ((hr1.far (by show g < w.heap.size; omega) _).far (by show g < w.heap.size; omega) _).more (by omega)
          · exact by_set (by_set b1 (Nat.le_refl _) _) (Nat.le_refl _) _

/-- What a mutation returns: a state in new memory. -/
def MutPost (w : World) (g q n m : Nat) (e : Ending) (w' : World) : Prop :=
  (∃ A B c d v h, e = .returned (sval A B c d ⟨v, h⟩) ∧ OSt w' w.heap.size A B c d ⟨v, h⟩ ∧ v.length ≤ n ∧ h.length ≤ m + 1) ∧ RD w' g (q + 2) ∧ w.grownBy w' (some g)
theorem mut_end {w W : World} {g q n m b lo c d : Nat} {A B : Option Addr} {v h : List Int} (hb : w.heap.size ≤ b) (hlo : b < lo) (hg : g < w.heap.size) (o : OSt W lo A B c d ⟨v, h⟩) (r : RD W g (q + 2)) (k : w.grownBy W (some g)) (hv : v.length ≤ n) (hh : h.length ≤ m + 1) (u1 u2 : Value) (e : Ending) (he : e = .returned (sval A B c d ⟨v, h⟩)) :
    MutPost w g q n m e ((W.setCell ⟨b, 0, none⟩ u1).setCell ⟨b, 1, none⟩ u2) :=
  ⟨⟨A, B, c, d, v, h, he, ((o.far hlo u1).far hlo u2).lo (by omega), hv, hh⟩, (r.far (by show g < b; omega) u1).far (by show g < b; omega) u2, by_set (by_set k hb u1) hb u2⟩
theorem OSt.swapH {w w' : World} {lo lo2 c d d' : Nat} {A B B' : Option Addr} {v h h' : List Int} (k : OSt w' lo A B c d ⟨v, h⟩) (o : OInts w' lo2 (.slice B' h'.length d') h') (hl : lo ≤ lo2) (hap : ∀ k, (Value.slice A v.length c).ownBlock = some k → (Value.slice B' h'.length d').ownBlock ≠ some k) : OSt w' lo A B' c d' ⟨v, h'⟩ :=
  ⟨k.v, own_lo o hl, hap⟩


set_option maxRecDepth 100000 in
set_option maxHeartbeats 3200000 in
theorem l2Mutate_c (g q : Nat) (A B : Option Addr) (c d : Nat) (s : Pl.St) (w : World) (hr : RD w g q) (hq : q ≤ 800000) (hS : Sts w A B s) (h1 : s.v.length ≤ 100) (h2 : s.h.length ≤ 100) :
    Calls Tryd.prog 62 #[.pointer (some ⟨g, 0, none⟩), sval A B c d s] w (MutPost w g q s.v.length s.h.length) := by
  obtain ⟨v, h⟩ := s
  replace h1 : v.length ≤ 100 := h1
  replace h2 : h.length ≤ 100 := h2
  have hlt := hr.lt
  obtain ⟨i0, hi, hz0, hz1, hz2⟩ := info_parts int_info
  have y0 := Box2.new (w.alloc (.cells #[.slice A v.length c, .slice B h.length d] 27)) 27 (.slice none 0 0) (.slice none 0 0)
  simp only [World.size_alloc] at y0
  go_enter Tryd.func62, Tryd.ntmps62
  go_wp2_with fail
  refine (l2Copy_c A B c d ⟨v, h⟩ _ (hS.grow (by repeat (first | exact Grow.refl _ | assumption | refine Grow.alloc ?_ _ | refine Grow.drew ?_ | refine Grow.drewN ?_ _ | refine Grow.trans ?_ (by assumption) | refine Grow.below ?_ (by assumption) (by first | exact Nat.le_refl _ | omega)))) (by show v.length ≤ _; omega) (by show h.length ≤ _; omega)).mono ?_
  rintro e w1 ⟨A1, B1, c1, d1, rfl, o1, g1⟩
  have y0 := y0.grow g1
  have hG : Grow w w1 := (by repeat (first | exact Grow.refl _ | assumption | refine Grow.alloc ?_ _ | refine Grow.drew ?_ | refine Grow.drewN ?_ _ | refine Grow.trans ?_ (by assumption) | refine Grow.below ?_ (by assumption) (by first | exact Nat.le_refl _ | omega)))
  have hr1 := hr.grow hG
  have hsz1 := g1.le
  simp only [World.size_alloc] at hsz1 o1
  have ba := o1.bdv
  have bb := o1.bdh
  replace ba : Bd (w.heap.size + 1 + 1) w1.heap.size (.slice A1 v.length c1) := ba
  replace bb : Bd (w.heap.size + 1 + 1) w1.heap.size (.slice B1 h.length d1) := bb
  clear hr g1 hS
  go_wp2_with fail
  refine (pick_c g q 50 _ (hr1.grow (by repeat (first | exact Grow.refl _ | assumption | refine Grow.alloc ?_ _ | refine Grow.drew ?_ | refine Grow.drewN ?_ _ | refine Grow.trans ?_ (by assumption) | refine Grow.below ?_ (by assumption) (by first | exact Nat.le_refl _ | omega)))) (by omega) (by omega) (by omega)).mono ?_
  rintro e w2 ⟨⟨x, hx, rfl⟩, hr2, g2⟩
  have y1 := (Box2.new w1 27 (.slice A1 v.length c1) (.slice B1 h.length d1)).kept g2 (by intro e; injection e with e; omega)
  have y0 := (y0.grow (show Grow w1 _ from Grow.alloc (Grow.refl _) _)).kept g2 (by intro e; injection e with e; omega)
  have b2 : w.grownBy w2 (some g) := by_trans (by_alloc (hG.by_ _) _) g2
  have o2 := (o1.grow (show Grow w1 _ from Grow.alloc (Grow.refl _) _)).by_ g2 (by omega)
  have hs2 := g2.size
  simp only [World.size_alloc] at hs2
  clear g2 hr1 hG o1
  rcases (show x = 0 ∨ x = 1 ∨ x = 2 ∨ x = 3 ∨ 4 ≤ x from by omega) with rfl | rfl | rfl | rfl | h4
  · by_cases hv : 0 < v.length
    · have hv1 : (0 : Int) < (v.length : Int) := by omega
      obtain ⟨gA, rfl, hgl, hgs⟩ := own_some o2.v hv
      have hgA := ba gA rfl
      obtain ⟨k0, k1, _, _⟩ := y1.facts
      go_wp2_with fail
      have hlit := fun W => lit_own W [9, -1, 9223372036854775807] _ rfl (by simp)
      go_region_held3 (fun W => W.cell? ⟨w1.heap.size, 0, none⟩ = some (.slice (some ⟨gA, 0, none⟩) v.length c1))
        (first | go_keep | exact g4.cell (by assumption) (by intro e; injection e with e; exact absurd (show w1.heap.size = g from e) (by omega)) | exact (World.cell?_setCell_other _ _ _ _ (by intro e; injection e with e; exact absurd e (by omega))).trans (by assumption))
        ((go_at_call 96; refine (num_c g (q + 1) 3 w2.heap.size _ [9, -1, 9223372036854775807] _ (hr2.grow (by repeat (first | exact Grow.refl _ | assumption | refine Grow.alloc ?_ _ | refine Grow.drew ?_ | refine Grow.drewN ?_ _ | refine Grow.trans ?_ (by assumption) | refine Grow.below ?_ (by assumption) (by first | exact Nat.le_refl _ | omega)))) (by omega) (by simp) (by simp) (own_grow (hlit _) (by repeat (first | exact Grow.refl _ | assumption | refine Grow.alloc ?_ _ | refine Grow.drew ?_ | refine Grow.drewN ?_ _ | refine Grow.trans ?_ (by assumption) | refine Grow.below ?_ (by assumption) (by first | exact Nat.le_refl _ | omega)))) (by omega)).mono ?_; rintro e w4 ⟨⟨z, hz, rfl⟩, hr4, g4⟩; have o4 := (o2.grow (show Grow w2 _ from (by repeat (first | exact Grow.refl _ | assumption | refine Grow.alloc ?_ _ | refine Grow.drew ?_ | refine Grow.drewN ?_ _ | refine Grow.trans ?_ (by assumption) | refine Grow.below ?_ (by assumption) (by first | exact Nat.le_refl _ | omega))))).by_ g4 (by omega); obtain ⟨z0, c0⟩ : ∃ y, w4.cell? ⟨gA, 0, none⟩ = some y := ⟨_, own_cellAt o4.v (show (v.map (Value.int .i64))[0]? = some (.int .i64 v[0]) by simp [hv])⟩; have f0 := World.ownsRow.frozenAt o4.v 0))
      have y1 := ((y1.grow (show Grow w2 _ from (by repeat (first | exact Grow.refl _ | assumption | refine Grow.alloc ?_ _ | refine Grow.drew ?_ | refine Grow.drewN ?_ _ | refine Grow.trans ?_ (by assumption) | refine Grow.below ?_ (by assumption) (by first | exact Nat.le_refl _ | omega))))).kept g4 (by intro e; injection e with e; omega)).far (p := ⟨gA, 0, none⟩) (by show w1.heap.size ≠ gA; omega) (.int .i64 z)
      have y0 := ((y0.grow (show Grow w2 _ from (by repeat (first | exact Grow.refl _ | assumption | refine Grow.alloc ?_ _ | refine Grow.drew ?_ | refine Grow.drewN ?_ _ | refine Grow.trans ?_ (by assumption) | refine Grow.below ?_ (by assumption) (by first | exact Nat.le_refl _ | omega))))).kept g4 (by intro e; injection e with e; omega)).far (p := ⟨gA, 0, none⟩) (by show w.heap.size + 1 ≠ gA; omega) (.int .i64 z)
      have b4 : w.grownBy _ (some g) := by_set (p := ⟨gA, 0, none⟩) (by_trans (by_grow b2 (show Grow w2 _ from (by repeat (first | exact Grow.refl _ | assumption | refine Grow.alloc ?_ _ | refine Grow.drew ?_ | refine Grow.drewN ?_ _ | refine Grow.trans ?_ (by assumption) | refine Grow.below ?_ (by assumption) (by first | exact Nat.le_refl _ | omega))))) g4) (by show w.heap.size ≤ gA; omega) (.int .i64 z)
      have o5 := o4.setV (k := 0) z
      have hr5 := hr4.far (p := ⟨gA, 0, none⟩) (by show g < gA; omega) (.int .i64 z)
      have hw5 : w1.heap.size < (w4.setCell ⟨gA, 0, none⟩ (.int .i64 z)).heap.size := y1.lt
      clear hlit g4 hr2 b2 o2 k0 k1
      have hl5 := hr5
      obtain ⟨j0, j1, e0, e1⟩ := y0.facts
      obtain ⟨k0, k1, _, _⟩ := y1.facts
      generalize w4.setCell ⟨gA, 0, none⟩ (.int .i64 z) = w5 at *
      go_wp2
      refine bodyPost_ret (v := .agg #[.slice (some ⟨gA, 0, none⟩) v.length c1, .slice B1 h.length d1]) (by simp [results, Tryd.results62, go_sem, j0, j1]) rfl (mut_end (b := w.heap.size + 1) (lo := w.heap.size + 1 + 1) (by omega) (by omega) hlt o5 (hr5.more (by omega)) b4 (by simp) (by simp) _ _ _ (by rw [sval_setV]))
    · have hv1 : (v.length : Int) ≤ 0 := by omega
      obtain ⟨k0, k1, _, _⟩ := y1.facts
      obtain ⟨j0, j1, e0, e1⟩ := y0.facts
      obtain ⟨k0, k1, _, _⟩ := y1.facts
      go_wp2
      refine bodyPost_ret (v := .agg #[.slice A1 v.length c1, .slice B1 h.length d1]) (by simp [results, Tryd.results62, go_sem, j0, j1]) rfl (mut_end (b := w.heap.size + 1) (lo := w.heap.size + 1 + 1) (by omega) (by omega) hlt o2 (hr2.more (by omega)) b2 (by simp) (by simp) _ _ _ rfl)
  · by_cases hv : 0 < h.length
    · have hv1 : (0 : Int) < (h.length : Int) := by omega
      obtain ⟨gB, rfl, hgl, hgs⟩ := own_some o2.h hv
      have hgB := bb gB rfl
      obtain ⟨k0, k1, _, _⟩ := y1.facts
      go_wp2_with fail
      have hlit := fun W => lit_own W [9, -2, -1] _ rfl (by simp)
      go_region_held3 (fun W => W.cell? ⟨w1.heap.size, 1, none⟩ = some (.slice (some ⟨gB, 0, none⟩) h.length d1))
        (first | go_keep | exact g4.cell (by assumption) (by intro e; injection e with e; exact absurd (show w1.heap.size = g from e) (by omega)) | exact (World.cell?_setCell_other _ _ _ _ (by intro e; injection e with e; exact absurd e (by omega))).trans (by assumption))
        ((go_at_call 96; refine (num_c g (q + 1) 3 w2.heap.size _ [9, -2, -1] _ (hr2.grow (by repeat (first | exact Grow.refl _ | assumption | refine Grow.alloc ?_ _ | refine Grow.drew ?_ | refine Grow.drewN ?_ _ | refine Grow.trans ?_ (by assumption) | refine Grow.below ?_ (by assumption) (by first | exact Nat.le_refl _ | omega)))) (by omega) (by simp) (by simp) (own_grow (hlit _) (by repeat (first | exact Grow.refl _ | assumption | refine Grow.alloc ?_ _ | refine Grow.drew ?_ | refine Grow.drewN ?_ _ | refine Grow.trans ?_ (by assumption) | refine Grow.below ?_ (by assumption) (by first | exact Nat.le_refl _ | omega)))) (by omega)).mono ?_; rintro e w4 ⟨⟨z, hz, rfl⟩, hr4, g4⟩; have o4 := (o2.grow (show Grow w2 _ from (by repeat (first | exact Grow.refl _ | assumption | refine Grow.alloc ?_ _ | refine Grow.drew ?_ | refine Grow.drewN ?_ _ | refine Grow.trans ?_ (by assumption) | refine Grow.below ?_ (by assumption) (by first | exact Nat.le_refl _ | omega))))).by_ g4 (by omega); obtain ⟨z0, c0⟩ : ∃ y, w4.cell? ⟨gB, 0, none⟩ = some y := ⟨_, own_cellAt o4.h (show (h.map (Value.int .i64))[0]? = some (.int .i64 h[0]) by simp [hv])⟩; have f0 := World.ownsRow.frozenAt o4.h 0))
      have y1 := ((y1.grow (show Grow w2 _ from (by repeat (first | exact Grow.refl _ | assumption | refine Grow.alloc ?_ _ | refine Grow.drew ?_ | refine Grow.drewN ?_ _ | refine Grow.trans ?_ (by assumption) | refine Grow.below ?_ (by assumption) (by first | exact Nat.le_refl _ | omega))))).kept g4 (by intro e; injection e with e; omega)).far (p := ⟨gB, 0, none⟩) (by show w1.heap.size ≠ gB; omega) (.int .i64 z)
      have y0 := ((y0.grow (show Grow w2 _ from (by repeat (first | exact Grow.refl _ | assumption | refine Grow.alloc ?_ _ | refine Grow.drew ?_ | refine Grow.drewN ?_ _ | refine Grow.trans ?_ (by assumption) | refine Grow.below ?_ (by assumption) (by first | exact Nat.le_refl _ | omega))))).kept g4 (by intro e; injection e with e; omega)).far (p := ⟨gB, 0, none⟩) (by show w.heap.size + 1 ≠ gB; omega) (.int .i64 z)
      have b4 : w.grownBy _ (some g) := by_set (p := ⟨gB, 0, none⟩) (by_trans (by_grow b2 (show Grow w2 _ from (by repeat (first | exact Grow.refl _ | assumption | refine Grow.alloc ?_ _ | refine Grow.drew ?_ | refine Grow.drewN ?_ _ | refine Grow.trans ?_ (by assumption) | refine Grow.below ?_ (by assumption) (by first | exact Nat.le_refl _ | omega))))) g4) (by show w.heap.size ≤ gB; omega) (.int .i64 z)
      have o5 := o4.setH (k := 0) z
      have hr5 := hr4.far (p := ⟨gB, 0, none⟩) (by show g < gB; omega) (.int .i64 z)
      clear hlit g4 hr2 b2 o2 k0 k1
      obtain ⟨j0, j1, e0, e1⟩ := y0.facts
      obtain ⟨k0, k1, _, _⟩ := y1.facts
      generalize w4.setCell ⟨gB, 0, none⟩ (.int .i64 z) = w5 at *
      go_wp2
      refine bodyPost_ret (v := .agg #[.slice A1 v.length c1, .slice (some ⟨gB, 0, none⟩) h.length d1]) (by simp [results, Tryd.results62, go_sem, j0, j1]) rfl (mut_end (b := w.heap.size + 1) (lo := w.heap.size + 1 + 1) (by omega) (by omega) hlt o5 (hr5.more (by omega)) b4 (by simp) (by simp) _ _ _ (by rw [sval_setH]))
    · have hv1 : (h.length : Int) ≤ 0 := by omega
      obtain ⟨k0, k1, _, _⟩ := y1.facts
      obtain ⟨j0, j1, e0, e1⟩ := y0.facts
      obtain ⟨k0, k1, _, _⟩ := y1.facts
      go_wp2
      refine bodyPost_ret (v := .agg #[.slice A1 v.length c1, .slice B1 h.length d1]) (by simp [results, Tryd.results62, go_sem, j0, j1]) rfl (mut_end (b := w.heap.size + 1) (lo := w.heap.size + 1 + 1) (by omega) (by omega) hlt o2 (hr2.more (by omega)) b2 (by simp) (by simp) _ _ _ rfl)
  · obtain ⟨k0, k1, e0, e1⟩ := y1.facts
    have oh2 : OInts w2 (w.heap.size + 1 + 1) (.slice B1 h.length d1) h := o2.h
    have ov2 : OInts w2 (w.heap.size + 1 + 1) (.slice A1 v.length c1) v := o2.v
    have ap2 : ∀ k, (Value.slice A1 v.length c1).ownBlock = some k → (Value.slice B1 h.length d1).ownBlock ≠ some k := o2.ap
    clear o2
    go_wp2_with ((at_builtin; go_must (refine wpList_append_src _ rfl _ _ 22 rfl (w.heap.size + 1 + 1) 3 i0 _ 1 8 Tryd.underlying22 hi hz0 hz1 hz2 rfl (by omega) _ h.length (h.map (Value.int .i64)) rfl (own_grow oh2 (by repeat (first | exact Grow.refl _ | assumption | refine Grow.alloc ?_ _ | refine Grow.drew ?_ | refine Grow.drewN ?_ _ | refine Grow.trans ?_ (by assumption) | refine Grow.below ?_ (by assumption) (by first | exact Nat.le_refl _ | omega)))) _ 1 1 [.int .i64 (-1)] rfl rfl (Cells.block (heap_alloc_new _ _)) (by intro u hu; rw [List.mem_singleton.1 hu]; rfl) (by unfold maxLen; omega) (by omega) (by simp; omega) (h.length + 1) rfl ((h ++ [(-1)]).map (Value.int .i64)) (by simp) ?_; intro A3 c3 w3 ho3 hgr3 hat3 hb3)); have y5 := (y1.grow (show Grow w2 _ from Grow.alloc (Grow.refl _) _)).kept hgr3 (Bd.off bb (.inr (Nat.le_refl _))); have y6 := (y0.grow (show Grow w2 _ from Grow.alloc (Grow.refl _) _)).kept hgr3 (Bd.off bb (.inl (by omega))); obtain ⟨p0, p1, r0, r1⟩ := y5.facts; obtain ⟨s0, s1, t0, t1⟩ := y6.facts; have hl5 := y5.lt; have hl6 := y6.lt; have hxx : ¬ w1.heap.size = w.heap.size + 1 := (by omega); have hyy : ¬ w.heap.size + 1 = w1.heap.size := (by omega))
    have hs3 := hgr3.size
    simp only [World.size_alloc] at hs3
    have ov3 : OInts w3 (w.heap.size + 1 + 1) (.slice A1 v.length c1) v := own_kept (own_grow ov2 (Grow.alloc (Grow.refl _) _)) hgr3 (fun k hk e => ap2 k hk e)
    have hr3 : RD w3 g (q + 2) := ((hr2.grow (Grow.alloc (Grow.refl _) _)).below hb3 (by omega)).more (by omega)
    have b3 : w.grownBy w3 (some g) := by_below (by_alloc b2 _) hb3 (by omega)
    have hat4 : (Value.slice A3 (h.length + 1) c3).ownBlock = (Value.slice B1 h.length d1).ownBlock ∨ (Value.slice A3 (h.length + 1) c3).ownBlock = some (w2.heap.size + 1) := by
      rcases hat3 with e | e
      · exact .inl e
      · exact .inr (e.trans (by simp))
    clear hat3
    have bn : ∀ k, (Value.slice A3 (h.length + 1) c3).ownBlock = some k → k ≠ w1.heap.size ∧ w.heap.size + 1 < k := fun k hk => by
      rcases hat4 with e3 | e3
      · have := bb k (e3.symm.trans hk); omega
      · have e4 := e3.symm.trans hk; injection e4 with e4; omega
    have ap3 : ∀ k, (Value.slice A1 v.length c1).ownBlock = some k → (Value.slice A3 (h ++ [-1]).length c3).ownBlock ≠ some k := fun k hk e => by
      rw [List.length_append] at e
      rcases hat4 with e3 | e3
      · exact ap2 k hk (e3.symm.trans e)
      · have := ba k hk; have e4 := e3.symm.trans e; injection e4 with e4; omega
    have oh3 := own_far (p := ⟨w1.heap.size, 1, none⟩) ho3 (fun k hk e => (bn k hk).1 e.symm) (.slice A3 (h.length + 1) c3)
    have ov4 := own_far (p := ⟨w1.heap.size, 1, none⟩) ov3 (fun k hk e => by have := ba k hk; exact absurd (show w1.heap.size = k from e) (by omega)) (.slice A3 (h.length + 1) c3)
    refine bodyPost_ret (v := .agg #[.slice A1 v.length c1, .slice A3 (h.length + 1) c3]) (by simp [results, Tryd.results62, go_sem, s0, s1]) rfl (mut_end (b := w.heap.size + 1) (lo := w.heap.size + 1 + 1) (A := A1) (B := A3) (c := c1) (d := c3) (v := v) (h := h ++ [-1]) (by omega) (by omega) hlt ⟨ov4, ointsSnoc oh3, ap3⟩ (hr3.far (by show g < w1.heap.size; omega) _) (by_set b3 (by show w.heap.size ≤ w1.heap.size; omega) _) (by simp) (by simp) _ _ _ (by simp))
  · obtain ⟨j0, j1, e0, e1⟩ := y0.facts
    go_wp2
    refine bodyPost_ret (v := .agg #[.slice none 0 0, .slice none 0 0]) (by simp [results, Tryd.results62, go_sem, j0, j1]) rfl (mut_end (b := w.heap.size + 1) (lo := w.heap.size + 1 + 1) (v := []) (h := []) (by omega) (by omega) hlt (OSt.emp _ _) (hr2.more (by omega)) b2 (by simp) (by simp) _ _ _ rfl)
  · have b0 : ((x : Int) == 0) = false := by simp; omega
    have b1 : ((x : Int) == 1) = false := by simp; omega
    have b3 : ((x : Int) == 2) = false := by simp; omega
    have b4 : ((x : Int) == 3) = false := by simp; omega
    obtain ⟨j0, j1, e0, e1⟩ := y0.facts
    obtain ⟨k0, k1, _, _⟩ := y1.facts
    go_wp2
    refine bodyPost_ret (v := .agg #[.slice A1 v.length c1, .slice B1 h.length d1]) (by simp [results, Tryd.results62, go_sem, j0, j1]) rfl (mut_end (b := w.heap.size + 1) (lo := w.heap.size + 1 + 1) (by omega) (by omega) hlt o2 (hr2.more (by omega)) b2 (by simp) (by simp) _ _ _ rfl)

end Go.Proofs.YtifdefkkofngoaaDoor
