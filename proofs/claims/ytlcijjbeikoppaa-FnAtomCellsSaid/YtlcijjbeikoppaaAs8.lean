/- Contract of the reference's substitution in assertions. Conditions: the lengths are far from Go's bounds. -/
import Derived.Test.YtlcijjbeikoppaaAs7
import Derived.Test.YtlcijjbeikoppaaPopHeld
namespace Go.Proofs.Ytlcijjbeikoppaa
open Go.RowKit
set_option linter.unusedVariables false

theorem own_blw {w w' : World} {lo E sz n B : Nat} {v : Value} {xs : List Value} (h : w.ownsRow lo E sz v n xs) (b : Below B w w') (hB : ∀ k, v.ownBlock = some k → k < B) : w'.ownsRow lo E sz v n xs := by
  obtain ⟨h1, h2⟩ := h
  refine ⟨h1, ?_⟩
  rcases h2 with hn | ⟨g, cap, cur, hv, hb, hgg, rest⟩
  · exact .inl hn
  · exact .inr ⟨g, cap, cur, hv, hb, (b.block g (hB g (by rw [hv]; rfl))).trans hgg, rest⟩

set_option maxRecDepth 100000 in
set_option maxHeartbeats 3200000 in
theorem l3Subst_c (A B : Option Addr) (c d : Nat) (s : Pl.Asr) (x y : Int) (w : World) (hS : Asrs w A B s) (h1 : s.f.length ≤ 4194304) (h2 : s.a.length ≤ 4194304) :
    Calls Try.prog 30 #[asval A B c d s, .int .i64 x, .int .i64 y] w (RA1 w (Pl.sbs s x y)) := by
  obtain ⟨v, h⟩ := s
  replace h1 : v.length ≤ 4194304 := h1
  replace h2 : h.length ≤ 4194304 := h2
  obtain ⟨i0, hi, hz0, hz1, hz2⟩ := info_parts fact_info
  obtain ⟨i1, hj, hy0, hy1, hy2⟩ := info_parts atom_info
  have IA : Facts w A v := hS.v
  have IB : Atoms w B h := hS.h
  clear hS
  have y0 := (Box2.new w 30 (.slice A v.length c) (.slice B h.length d)).grow (show Grow _ (((w.alloc (.cells #[.slice A v.length c, .slice B h.length d] 30)).alloc (.cells #[.slice none 0 0, .slice none 0 0] 30)).alloc (.cells #[.slice none 0 0, .slice none 0 0] 30)) from Grow.alloc (Grow.alloc (Grow.refl _) _) _)
  have y1 := (Box2.new (w.alloc (.cells #[.slice A v.length c, .slice B h.length d] 30)) 30 (.slice none 0 0) (.slice none 0 0)).grow (show Grow _ (((w.alloc (.cells #[.slice A v.length c, .slice B h.length d] 30)).alloc (.cells #[.slice none 0 0, .slice none 0 0] 30)).alloc (.cells #[.slice none 0 0, .slice none 0 0] 30)) from Grow.alloc (Grow.refl _) _)
  have y7 := Box2.new ((w.alloc (.cells #[.slice A v.length c, .slice B h.length d] 30)).alloc (.cells #[.slice none 0 0, .slice none 0 0] 30)) 30 (.slice none 0 0) (.slice none 0 0)
  have G : Grow w (((w.alloc (.cells #[.slice A v.length c, .slice B h.length d] 30)).alloc (.cells #[.slice none 0 0, .slice none 0 0] 30)).alloc (.cells #[.slice none 0 0, .slice none 0 0] 30)) := (by repeat (first | exact Grow.refl _ | assumption | refine Grow.alloc ?_ _ | refine Grow.drew ?_ | refine Grow.drewN ?_ _ | refine Grow.trans ?_ (by assumption) | refine Grow.below ?_ (by assumption) (by first | exact Nat.le_refl _ | omega)))
  have hz : w.heap.size + 3 ≤ (((w.alloc (.cells #[.slice A v.length c, .slice B h.length d] 30)).alloc (.cells #[.slice none 0 0, .slice none 0 0] 30)).alloc (.cells #[.slice none 0 0, .slice none 0 0] 30)).heap.size := by simp
  simp only [World.size_alloc] at y1 y7
  go_enter Try.func30, Try.ntmps30
  go_wp2_with fail
  generalize ((w.alloc (.cells #[.slice A v.length c, .slice B h.length d] 30)).alloc (.cells #[.slice none 0 0, .slice none 0 0] 30)).alloc (.cells #[.slice none 0 0, .slice none 0 0] 30) = w2 at *
  go_loopw [8] (fun i wr => ∃ (k : Nat) (u : List Pl.Fct) (A2 : Option Addr) (c2 : Nat), k ≤ v.length ∧ i = .int .i64 k ∧ u.length = k ∧ Hid (u = (v.take k).map (Pl.sbF x y)) ∧ Grow w wr ∧ w.heap.size + 3 ≤ wr.heap.size ∧ Box2 wr w.heap.size 30 (.slice A v.length c) (.slice B h.length d) ∧ Box2 wr (w.heap.size + 1) 30 (.slice none 0 0) (.slice none 0 0) ∧ Box2 wr (w.heap.size + 1 + 1) 30 (.slice A2 u.length c2) (.slice none 0 0) ∧ OFacts wr (w.heap.size + 3) (.slice A2 u.length c2) u) (fun i _ => v.length - (intOf i).toNat)
  case atStart => exact ⟨0, [], none, 0, Nat.zero_le _, rfl, rfl, Lib.hid (by simp), G, hz, y0, y1, y7, ⟨rfl, .inl ⟨rfl, rfl⟩⟩⟩
  case round =>
    clear G y0 y1 y7 hz
    obtain ⟨k, u, A2, c2, hk, rfl, hul, HU, G, hz, y0, y1, y7, oU⟩ := hrel
    have hu1 : u.length ≤ 4194304 := by omega
    have HL := Lib.hid hul
    clear hul
    by_cases hlt : k < v.length
    · obtain ⟨b, off, rfl, c0, c1', c2'⟩ := (IA.grow G).at_ hlt
      obtain ⟨k0, k1, _, _⟩ := y0.facts
      have hk2 : (k : Int) < (v.length : Int) := by omega
      have hk3 : (0 : Int) ≤ (k : Int) := by omega
      go_wp2_with fail
      clear c0 c1' c2' k0 k1
      have y9 := Box3.new wr 75 (.bool v[k].e) (.int .i64 v[k].a) (.int .i64 v[k].b)
      have q : Grow wr (wr.alloc (.cells #[.bool v[k].e, .int .i64 v[k].a, .int .i64 v[k].b] 75)) := (by repeat (first | exact Grow.refl _ | assumption | refine Grow.alloc ?_ _ | refine Grow.drew ?_ | refine Grow.drewN ?_ _ | refine Grow.trans ?_ (by assumption) | refine Grow.below ?_ (by assumption) (by first | exact Nat.le_refl _ | omega)))
      replace y0 := y0.grow q
      replace y1 := y1.grow q
      replace y7 := y7.grow q
      have bU := own_blk oU
      replace oU : OFacts _ (w.heap.size + 3) (.slice A2 u.length c2) u := own_grow oU q
      replace G := G.trans q
      have hz9 := y9.lt
      clear q
      generalize wr.alloc (.cells #[.bool v[k].e, .int .i64 v[k].a, .int .i64 v[k].b] 75) = wa at *
      obtain ⟨k0, k1, _, _⟩ := y7.facts
      obtain ⟨r0, r1, r2⟩ := y9.facts
      refine pop_begin (S := (fun W => W.cell? ⟨wr.heap.size, 0, none⟩ = some (.bool v[k].e) ∧ W.cell? ⟨wr.heap.size, 1, none⟩ = some (.int .i64 v[k].a) ∧ W.cell? ⟨wr.heap.size, 2, none⟩ = some (.int .i64 v[k].b) ∧ W.cell? ⟨w.heap.size + 1 + 1, 0, none⟩ = some (.slice A2 u.length c2))) (by kernel_rfl) (by kernel_rfl) (by kernel_rfl) rfl ?_ ?_
      · exact ⟨r0, r1, r2, k0⟩
      intro l last hl hlast hHeld
      simp only [List.dropLast] at hl
      simp only [List.getLast?, List.getLast, Option.some.injEq] at hlast
      subst hl
      subst hlast
      refine pop_take 0 (v := ?_) rfl (by kernel_rfl) (by kernel_rfl) (by kernel_rfl) (fun _ _ _ h => h) (by rfl) (by assumption) ?_ ?_
      rotate_left 1
      · (intro W hSw; (try dsimp only at hSw); go_simp; (try with_reducible rfl))
      (try simp only [Act.put, List.setIfInBounds_toArray, List.set_cons_zero, List.set_cons_succ])
      refine pop_take 1 (v := ?_) rfl (by kernel_rfl) (by kernel_rfl) (by kernel_rfl) (fun _ _ _ h => h) (by rfl) (by assumption) ?_ ?_
      rotate_left 1
      · (intro W hSw; (try dsimp only at hSw); go_simp; (try with_reducible rfl))
      (try simp only [Act.put, List.setIfInBounds_toArray, List.set_cons_zero, List.set_cons_succ])
      refine pop_take 2 (v := ?_) rfl (by kernel_rfl) (by kernel_rfl) (by kernel_rfl) (fun _ _ _ h => h) (by rfl) (by assumption) ?_ ?_
      rotate_left 1
      · (intro W hSw; (try dsimp only at hSw); go_simp; (try with_reducible rfl))
      (try simp only [Act.put, List.setIfInBounds_toArray, List.set_cons_zero, List.set_cons_succ])
      refine pop_take 3 (v := ?_) rfl (by kernel_rfl) (by kernel_rfl) (by kernel_rfl) (fun _ _ _ h => h) (by rfl) (by assumption) ?_ ?_
      rotate_left 1
      · (intro W hSw; (try dsimp only at hSw); go_simp; (try with_reducible rfl))
      (try simp only [Act.put, List.setIfInBounds_toArray, List.set_cons_zero, List.set_cons_succ])
      refine pop_take 4 (v := ?_) rfl (by kernel_rfl) (by kernel_rfl) (by kernel_rfl) (fun _ _ _ h => h) (by rfl) (by assumption) ?_ ?_
      rotate_left 1
      · (intro W hSw; (try dsimp only at hSw); go_simp; (try with_reducible rfl))
      (try simp only [Act.put, List.setIfInBounds_toArray, List.set_cons_zero, List.set_cons_succ])
      refine pop_take 5 (v := ?_) rfl (by kernel_rfl) (by kernel_rfl) (by kernel_rfl) (fun _ _ _ h => h) (by rfl) (by assumption) ?_ ?_
      rotate_left 1
      · (intro W hSw; (try dsimp only at hSw); go_simp; (try with_reducible rfl))
      (try simp only [Act.put, List.setIfInBounds_toArray, List.set_cons_zero, List.set_cons_succ])
      refine pop_take 6 (v := ?_) rfl (by kernel_rfl) (by kernel_rfl) (by kernel_rfl) (fun _ _ _ h => h) (by rfl) (by assumption) ?_ ?_
      rotate_left 1
      · (intro W hSw; (try dsimp only at hSw); go_simp; (try with_reducible rfl))
      (try simp only [Act.put, List.setIfInBounds_toArray, List.set_cons_zero, List.set_cons_succ])
      refine pop_take 7 (v := ?_) rfl (by kernel_rfl) (by kernel_rfl) (by kernel_rfl) (fun _ _ _ h => h) (by rfl) (by assumption) ?_ ?_
      rotate_left 1
      · (intro W hSw; (try dsimp only at hSw); go_simp; (try with_reducible rfl))
      (try simp only [Act.put, List.setIfInBounds_toArray, List.set_cons_zero, List.set_cons_succ])
      refine pop_take 9 (v := ?_) rfl (by kernel_rfl) (by kernel_rfl) (by kernel_rfl) (fun _ _ _ h => h) (by rfl) (by assumption) ?_ ?_
      rotate_left 1
      · (intro W hSw; (try dsimp only at hSw); go_simp; (try with_reducible rfl))
      (try simp only [Act.put, List.setIfInBounds_toArray, List.set_cons_zero, List.set_cons_succ])
      refine pop_take 10 (v := ?_) rfl (by kernel_rfl) (by kernel_rfl) (by kernel_rfl) (fun _ _ _ h => h) (by rfl) (by assumption) ?_ ?_
      rotate_left 1
      · (intro W hSw; (try dsimp only at hSw); go_simp; (try with_reducible rfl))
      (try simp only [Act.put, List.setIfInBounds_toArray, List.set_cons_zero, List.set_cons_succ])
      refine pop_take 11 (v := ?_) rfl (by kernel_rfl) (by kernel_rfl) (by kernel_rfl) (fun _ _ _ h => h) (by rfl) (by assumption) ?_ ?_
      rotate_left 1
      · (intro W hSw; (try dsimp only at hSw); go_simp; (try with_reducible rfl))
      (try simp only [Act.put, List.setIfInBounds_toArray, List.set_cons_zero, List.set_cons_succ])
      refine pop_take 12 (v := ?_) rfl (by kernel_rfl) (by kernel_rfl) (by kernel_rfl) (fun _ _ _ h => h) (by rfl) (by assumption) ?_ ?_
      rotate_left 1
      · (intro W hSw; (try dsimp only at hSw); go_simp; (try with_reducible rfl))
      (try simp only [Act.put, List.setIfInBounds_toArray, List.set_cons_zero, List.set_cons_succ])
      refine pop_one 8 (by kernel_rfl) rfl (fun K hK => ?_)
      go_simp
      ((with_reducible refine (l3Swap_c v[k].a x y _).mono ?_); rintro e w4 ⟨rfl, g4⟩)
      go_wp2_with fail
      refine hK.out _ _ ?_ (fun hHeld => ?_)
      · (obtain ⟨s0, s1, s2, s3⟩ := hHeld; exact ⟨g4.cell s0, g4.cell s1, g4.cell s2, g4.cell s3⟩)
      clear hK K
      (try simp only [Act.put, List.setIfInBounds_toArray, List.set_cons_zero, List.set_cons_succ])
      refine pop_one 13 (by kernel_rfl) rfl (fun K hK => ?_)
      go_simp
      ((with_reducible refine (l3Swap_c v[k].b x y _).mono ?_); rintro e w5 ⟨rfl, g5⟩)
      go_wp2_with fail
      refine hK.out _ _ ?_ (fun hHeld => ?_)
      · (obtain ⟨s0, s1, s2, s3⟩ := hHeld; exact ⟨g5.cell s0, g5.cell s1, g5.cell s2, g5.cell s3⟩)
      clear hK K
      (try simp only [Act.put, List.setIfInBounds_toArray, List.set_cons_zero, List.set_cons_succ])
      refine pop_take 14 (v := ?_) rfl (by kernel_rfl) (by kernel_rfl) (by kernel_rfl) (fun _ _ _ h => h) (by rfl) (by assumption) ?_ ?_
      rotate_left 1
      · (intro W hSw; (try dsimp only at hSw); go_simp; (try with_reducible rfl))
      (try simp only [Act.put, List.setIfInBounds_toArray, List.set_cons_zero, List.set_cons_succ])
      refine pop_one 15 (by kernel_rfl) rfl (fun K hK => ?_)
      go_simp
      refine hK.out _ _ ?_ (fun hHeld => ?_)
      · (obtain ⟨s0, s1, s2, s3⟩ := hHeld; exact ⟨(Grow.alloc (Grow.refl _) _).cell s0, (Grow.alloc (Grow.refl _) _).cell s1, (Grow.alloc (Grow.refl _) _).cell s2, (Grow.alloc (Grow.refl _) _).cell s3⟩)
      clear hK K
      (try simp only [Act.put, List.setIfInBounds_toArray, List.set_cons_zero, List.set_cons_succ])
      refine pop_one 16 (by kernel_rfl) rfl (fun K hK => ?_)
      (refine step_append_src _ (by rfl) (.tmp 26) (.tmp 40) 27 (by rfl) (w.heap.size + 3) 75 i0 _ 3 24 Try.underlying27 hi hz0 hz1 hz2 rfl (by omega) _ u.length (u.flatMap fcells) (by rfl) (own_grow oU (by repeat (first | exact Grow.refl _ | assumption | refine Grow.alloc ?_ _ | refine Grow.drew ?_ | refine Grow.drewN ?_ _ | refine Grow.trans ?_ (by assumption) | refine Grow.below ?_ (by assumption) (by first | exact Nat.le_refl _ | omega)))) _ 1 1 (fcells (Pl.sbF x y v[k])) (by rfl) (by rfl) (Cells.block (heap_alloc_new _ _)) (fcells_one _) (by unfold maxLen; omega) (by omega) (Nat.le_trans hz (Nat.le_trans (Nat.le_of_lt hz9) (Grow.le (by repeat (first | exact Grow.refl _ | assumption | refine Grow.alloc ?_ _ | refine Grow.drew ?_ | refine Grow.drewN ?_ _ | refine Grow.trans ?_ (by assumption) | refine Grow.below ?_ (by assumption) (by first | exact Nat.le_refl _ | omega)))))) (u.length + 1) rfl ((u ++ [Pl.sbF x y v[k]]).flatMap fcells) (by rw [List.flatMap_append]; simp) ?_; intro A3 c3 w6 ho6 hgr6 hat6 hb6; have z7 := (y7.grow (show Grow wa _ from (by repeat (first | exact Grow.refl _ | assumption | refine Grow.alloc ?_ _ | refine Grow.drew ?_ | refine Grow.drewN ?_ _ | refine Grow.trans ?_ (by assumption) | refine Grow.below ?_ (by assumption) (by first | exact Nat.le_refl _ | omega))))).bel hb6 (by omega); obtain ⟨j0, j1, e0, e1⟩ := z7.facts; have z9 := (y9.grow (show Grow wa _ from (by repeat (first | exact Grow.refl _ | assumption | refine Grow.alloc ?_ _ | refine Grow.drew ?_ | refine Grow.drewN ?_ _ | refine Grow.trans ?_ (by assumption) | refine Grow.below ?_ (by assumption) (by first | exact Nat.le_refl _ | omega))))).kept hgr6 (fun e => by have := bU _ e; omega); obtain ⟨t0, t1, t2⟩ := z9.facts)
      refine hK.out _ _ ?_ (fun hHeld => ?_)
      · exact ⟨t0, t1, t2, j0⟩
      clear hK K
      (try simp only [Act.put, List.setIfInBounds_toArray, List.set_cons_zero, List.set_cons_succ])
      refine pop_take 17 (v := ?_) rfl (by kernel_rfl) (by kernel_rfl) (by kernel_rfl) (fun _ _ _ h => h) (by rfl) (by assumption) ?_ ?_
      rotate_left 1
      · (intro W hSw; (try dsimp only at hSw); go_simp; (try with_reducible rfl))
      (try simp only [Act.put, List.setIfInBounds_toArray, List.set_cons_zero, List.set_cons_succ])
      refine wpAnyH_done (by kernel_rfl) ?_ _
      simp only [lastPost]
      have HV := Lib.hid (show u ++ [Pl.sbF x y v[k]] = (v.take (k + 1)).map (Pl.sbF x y) by rw [HU.out, take_snoc v k hlt, List.map_append]; rfl)
      have q : Grow wa (w5.alloc (.cells #[.bool v[k].e, .int .i64 (Pl.sw v[k].a x y), .int .i64 (Pl.sw v[k].b x y)] 75)) := (by repeat (first | exact Grow.refl _ | assumption | refine Grow.alloc ?_ _ | refine Grow.drew ?_ | refine Grow.drewN ?_ _ | refine Grow.trans ?_ (by assumption) | refine Grow.below ?_ (by assumption) (by first | exact Nat.le_refl _ | omega)))
      have hq := q.le
      have G6 : Grow w w6 := (G.trans q).below hb6 (by omega)
      have hs6 := hb6.size
      replace y0 := (y0.grow q).bel hb6 (by omega)
      replace y1 := (y1.grow q).bel hb6 (by omega)
      replace z7 := z7.set0 (.slice A3 (u.length + 1) c3)
      have o7 := ofacts_snc (own_far_lo (p := ⟨w.heap.size + 1 + 1, 0, none⟩) ho6 (by show w.heap.size + 1 + 1 < w.heap.size + 3; omega) (.slice A3 (u.length + 1) c3))
      clear k0 k1 r0 r1 r2 g4 g5 q hgr6 hat6 hb6 y7 y9 z9 t0 t1 t2 oU ho6 bU hHeld
      go_simp
      go_wp2
      go_roundw
      case rel => exact ⟨k + 1, u ++ [Pl.sbF x y v[k]], A3, c3, by omega, by go_num, by rw [List.length_append, HL.out]; rfl, HV, G6.setCell (by show w.heap.size ≤ w.heap.size + 1 + 1; omega) _, by show w.heap.size + 3 ≤ (w6.setCell _ _).heap.size; simp [World.setCell]; omega, y0.far (by show w.heap.size ≠ w.heap.size + 1 + 1; omega) _, y1.far (by show w.heap.size + 1 ≠ w.heap.size + 1 + 1; omega) _, by rw [List.length_append]; exact z7, o7⟩
      case measure => simp [intOf]; omega
    · have hk' : k = v.length := by omega
      have HF := Lib.hid (show u = v.map (Pl.sbF x y) by rw [HU.out, hk']; simp)
      obtain ⟨k0, k1, _, _⟩ := y0.facts
      have HUL := Lib.hid (show u.length = v.length by have := HL.out; omega)
      clear HU hk' HL
      go_wp2_with fail
      clear k0 k1
      obtain ⟨wo, rfl⟩ : ∃ wo : World, wo = wr := ⟨_, rfl⟩
      have bA := own_bd oU
      go_loopw [10] (fun i wr => ∃ (k : Nat) (z : List Pl.Atm) (A4 : Option Addr) (c4 : Nat), k ≤ h.length ∧ i = .int .i64 k ∧ z.length = k ∧ Hid (z = (h.take k).map (Pl.sbA x y)) ∧ Grow w wr ∧ wo.heap.size ≤ wr.heap.size ∧ Box2 wr w.heap.size 30 (.slice A v.length c) (.slice B h.length d) ∧ Box2 wr (w.heap.size + 1) 30 (.slice none 0 0) (.slice none 0 0) ∧ Box2 wr (w.heap.size + 1 + 1) 30 (.slice A2 u.length c2) (.slice A4 z.length c4) ∧ OFacts wr (w.heap.size + 3) (.slice A2 u.length c2) u ∧ OAtoms wr wo.heap.size (.slice A4 z.length c4) z) (fun i _ => h.length - (intOf i).toNat)
      case atStart => exact ⟨0, [], none, 0, Nat.zero_le _, rfl, rfl, Lib.hid (by simp), G, Nat.le_refl _, y0, y1, y7, oU, ⟨rfl, .inl ⟨rfl, rfl⟩⟩⟩
      case round =>
        clear G y0 y1 y7 oU hlt hk
        obtain ⟨k, z, A4, c4, hk, rfl, hzl, HZ, G, hzo, y0, y1, y7, oU, oZ⟩ := hrel
        have hz1 : z.length ≤ 4194304 := by omega
        have HL := Lib.hid hzl
        clear hzl
        by_cases hlt : k < h.length
        · obtain ⟨b, off, rfl, c0, c1', c2'⟩ := (IB.grow G).at_ hlt
          obtain ⟨k0, k1, _, _⟩ := y0.facts
          have hk2 : (k : Int) < (h.length : Int) := by omega
          have hk3 : (0 : Int) ≤ (k : Int) := by omega
          go_wp2_with fail
          clear c0 c1' c2' k0 k1
          have y9 := Box3.new wr 45 (.int .i64 h[k].k) (.int .i64 h[k].a) (.int .i64 h[k].b)
          have q : Grow wr (wr.alloc (.cells #[.int .i64 h[k].k, .int .i64 h[k].a, .int .i64 h[k].b] 45)) := (by repeat (first | exact Grow.refl _ | assumption | refine Grow.alloc ?_ _ | refine Grow.drew ?_ | refine Grow.drewN ?_ _ | refine Grow.trans ?_ (by assumption) | refine Grow.below ?_ (by assumption) (by first | exact Nat.le_refl _ | omega)))
          replace y0 := y0.grow q
          replace y1 := y1.grow q
          replace y7 := y7.grow q
          have bZ := own_blk oZ
          replace oZ : OAtoms _ wo.heap.size (.slice A4 z.length c4) z := own_grow oZ q
          replace oU : OFacts _ (w.heap.size + 3) (.slice A2 u.length c2) u := own_grow oU q
          replace G := G.trans q
          have hz9 := y9.lt
          clear q
          generalize wr.alloc (.cells #[.int .i64 h[k].k, .int .i64 h[k].a, .int .i64 h[k].b] 45) = wa at *
          obtain ⟨k0, k1, _, _⟩ := y7.facts
          obtain ⟨r0, r1, r2⟩ := y9.facts
          refine pop_begin (S := (fun W => W.cell? ⟨wr.heap.size, 0, none⟩ = some (.int .i64 h[k].k) ∧ W.cell? ⟨wr.heap.size, 1, none⟩ = some (.int .i64 h[k].a) ∧ W.cell? ⟨wr.heap.size, 2, none⟩ = some (.int .i64 h[k].b) ∧ W.cell? ⟨w.heap.size + 1 + 1, 1, none⟩ = some (.slice A4 z.length c4))) (by kernel_rfl) (by kernel_rfl) (by kernel_rfl) rfl ?_ ?_
          · exact ⟨r0, r1, r2, k1⟩
          intro l last hl hlast hHeld
          simp only [List.dropLast] at hl
          simp only [List.getLast?, List.getLast, Option.some.injEq] at hlast
          subst hl
          subst hlast
          refine pop_take 0 (v := ?_) rfl (by kernel_rfl) (by kernel_rfl) (by kernel_rfl) (fun _ _ _ h => h) (by rfl) (by assumption) ?_ ?_
          rotate_left 1
          · (intro W hSw; (try dsimp only at hSw); go_simp; (try with_reducible rfl))
          (try simp only [Act.put, List.setIfInBounds_toArray, List.set_cons_zero, List.set_cons_succ])
          refine pop_take 1 (v := ?_) rfl (by kernel_rfl) (by kernel_rfl) (by kernel_rfl) (fun _ _ _ h => h) (by rfl) (by assumption) ?_ ?_
          rotate_left 1
          · (intro W hSw; (try dsimp only at hSw); go_simp; (try with_reducible rfl))
          (try simp only [Act.put, List.setIfInBounds_toArray, List.set_cons_zero, List.set_cons_succ])
          refine pop_take 2 (v := ?_) rfl (by kernel_rfl) (by kernel_rfl) (by kernel_rfl) (fun _ _ _ h => h) (by rfl) (by assumption) ?_ ?_
          rotate_left 1
          · (intro W hSw; (try dsimp only at hSw); go_simp; (try with_reducible rfl))
          (try simp only [Act.put, List.setIfInBounds_toArray, List.set_cons_zero, List.set_cons_succ])
          refine pop_take 3 (v := ?_) rfl (by kernel_rfl) (by kernel_rfl) (by kernel_rfl) (fun _ _ _ h => h) (by rfl) (by assumption) ?_ ?_
          rotate_left 1
          · (intro W hSw; (try dsimp only at hSw); go_simp; (try with_reducible rfl))
          (try simp only [Act.put, List.setIfInBounds_toArray, List.set_cons_zero, List.set_cons_succ])
          refine pop_take 4 (v := ?_) rfl (by kernel_rfl) (by kernel_rfl) (by kernel_rfl) (fun _ _ _ h => h) (by rfl) (by assumption) ?_ ?_
          rotate_left 1
          · (intro W hSw; (try dsimp only at hSw); go_simp; (try with_reducible rfl))
          (try simp only [Act.put, List.setIfInBounds_toArray, List.set_cons_zero, List.set_cons_succ])
          refine pop_take 5 (v := ?_) rfl (by kernel_rfl) (by kernel_rfl) (by kernel_rfl) (fun _ _ _ h => h) (by rfl) (by assumption) ?_ ?_
          rotate_left 1
          · (intro W hSw; (try dsimp only at hSw); go_simp; (try with_reducible rfl))
          (try simp only [Act.put, List.setIfInBounds_toArray, List.set_cons_zero, List.set_cons_succ])
          refine pop_take 6 (v := ?_) rfl (by kernel_rfl) (by kernel_rfl) (by kernel_rfl) (fun _ _ _ h => h) (by rfl) (by assumption) ?_ ?_
          rotate_left 1
          · (intro W hSw; (try dsimp only at hSw); go_simp; (try with_reducible rfl))
          (try simp only [Act.put, List.setIfInBounds_toArray, List.set_cons_zero, List.set_cons_succ])
          refine pop_take 7 (v := ?_) rfl (by kernel_rfl) (by kernel_rfl) (by kernel_rfl) (fun _ _ _ h => h) (by rfl) (by assumption) ?_ ?_
          rotate_left 1
          · (intro W hSw; (try dsimp only at hSw); go_simp; (try with_reducible rfl))
          (try simp only [Act.put, List.setIfInBounds_toArray, List.set_cons_zero, List.set_cons_succ])
          refine pop_take 9 (v := ?_) rfl (by kernel_rfl) (by kernel_rfl) (by kernel_rfl) (fun _ _ _ h => h) (by rfl) (by assumption) ?_ ?_
          rotate_left 1
          · (intro W hSw; (try dsimp only at hSw); go_simp; (try with_reducible rfl))
          (try simp only [Act.put, List.setIfInBounds_toArray, List.set_cons_zero, List.set_cons_succ])
          refine pop_take 10 (v := ?_) rfl (by kernel_rfl) (by kernel_rfl) (by kernel_rfl) (fun _ _ _ h => h) (by rfl) (by assumption) ?_ ?_
          rotate_left 1
          · (intro W hSw; (try dsimp only at hSw); go_simp; (try with_reducible rfl))
          (try simp only [Act.put, List.setIfInBounds_toArray, List.set_cons_zero, List.set_cons_succ])
          refine pop_take 11 (v := ?_) rfl (by kernel_rfl) (by kernel_rfl) (by kernel_rfl) (fun _ _ _ h => h) (by rfl) (by assumption) ?_ ?_
          rotate_left 1
          · (intro W hSw; (try dsimp only at hSw); go_simp; (try with_reducible rfl))
          (try simp only [Act.put, List.setIfInBounds_toArray, List.set_cons_zero, List.set_cons_succ])
          refine pop_take 12 (v := ?_) rfl (by kernel_rfl) (by kernel_rfl) (by kernel_rfl) (fun _ _ _ h => h) (by rfl) (by assumption) ?_ ?_
          rotate_left 1
          · (intro W hSw; (try dsimp only at hSw); go_simp; (try with_reducible rfl))
          (try simp only [Act.put, List.setIfInBounds_toArray, List.set_cons_zero, List.set_cons_succ])
          refine pop_one 8 (by kernel_rfl) rfl (fun K hK => ?_)
          go_simp
          ((with_reducible refine (l3Swap_c h[k].a x y _).mono ?_); rintro e w4 ⟨rfl, g4⟩)
          go_wp2_with fail
          refine hK.out _ _ ?_ (fun hHeld => ?_)
          · (obtain ⟨s0, s1, s2, s3⟩ := hHeld; exact ⟨g4.cell s0, g4.cell s1, g4.cell s2, g4.cell s3⟩)
          clear hK K
          (try simp only [Act.put, List.setIfInBounds_toArray, List.set_cons_zero, List.set_cons_succ])
          refine pop_one 13 (by kernel_rfl) rfl (fun K hK => ?_)
          go_simp
          ((with_reducible refine (l3Swap_c h[k].b x y _).mono ?_); rintro e w5 ⟨rfl, g5⟩)
          go_wp2_with fail
          refine hK.out _ _ ?_ (fun hHeld => ?_)
          · (obtain ⟨s0, s1, s2, s3⟩ := hHeld; exact ⟨g5.cell s0, g5.cell s1, g5.cell s2, g5.cell s3⟩)
          clear hK K
          (try simp only [Act.put, List.setIfInBounds_toArray, List.set_cons_zero, List.set_cons_succ])
          refine pop_take 14 (v := ?_) rfl (by kernel_rfl) (by kernel_rfl) (by kernel_rfl) (fun _ _ _ h => h) (by rfl) (by assumption) ?_ ?_
          rotate_left 1
          · (intro W hSw; (try dsimp only at hSw); go_simp; (try with_reducible rfl))
          (try simp only [Act.put, List.setIfInBounds_toArray, List.set_cons_zero, List.set_cons_succ])
          refine pop_one 15 (by kernel_rfl) rfl (fun K hK => ?_)
          go_simp
          refine hK.out _ _ ?_ (fun hHeld => ?_)
          · (obtain ⟨s0, s1, s2, s3⟩ := hHeld; exact ⟨(Grow.alloc (Grow.refl _) _).cell s0, (Grow.alloc (Grow.refl _) _).cell s1, (Grow.alloc (Grow.refl _) _).cell s2, (Grow.alloc (Grow.refl _) _).cell s3⟩)
          clear hK K
          (try simp only [Act.put, List.setIfInBounds_toArray, List.set_cons_zero, List.set_cons_succ])
          refine pop_one 16 (by kernel_rfl) rfl (fun K hK => ?_)
          (refine step_append_src _ (by rfl) (.tmp 56) (.tmp 70) 28 (by rfl) wo.heap.size 45 i1 _ 3 24 Try.underlying28 hj hy0 hy1 hy2 rfl (by omega) _ z.length (z.flatMap xcells) (by rfl) (own_grow oZ (by repeat (first | exact Grow.refl _ | assumption | refine Grow.alloc ?_ _ | refine Grow.drew ?_ | refine Grow.drewN ?_ _ | refine Grow.trans ?_ (by assumption) | refine Grow.below ?_ (by assumption) (by first | exact Nat.le_refl _ | omega)))) _ 1 1 (xcells (Pl.sbA x y h[k])) (by rfl) (by rfl) (Cells.block (heap_alloc_new _ _)) (xcells_one _) (by unfold maxLen; omega) (by omega) (Nat.le_trans hzo (Nat.le_trans (Nat.le_of_lt hz9) (Grow.le (by repeat (first | exact Grow.refl _ | assumption | refine Grow.alloc ?_ _ | refine Grow.drew ?_ | refine Grow.drewN ?_ _ | refine Grow.trans ?_ (by assumption) | refine Grow.below ?_ (by assumption) (by first | exact Nat.le_refl _ | omega)))))) (z.length + 1) rfl ((z ++ [Pl.sbA x y h[k]]).flatMap xcells) (by rw [List.flatMap_append]; simp) ?_; intro A3 c3 w6 ho6 hgr6 hat6 hb6; have z7 := (y7.grow (show Grow wa _ from (by repeat (first | exact Grow.refl _ | assumption | refine Grow.alloc ?_ _ | refine Grow.drew ?_ | refine Grow.drewN ?_ _ | refine Grow.trans ?_ (by assumption) | refine Grow.below ?_ (by assumption) (by first | exact Nat.le_refl _ | omega))))).bel hb6 (by omega); obtain ⟨j0, j1, e0, e1⟩ := z7.facts; have z9 := (y9.grow (show Grow wa _ from (by repeat (first | exact Grow.refl _ | assumption | refine Grow.alloc ?_ _ | refine Grow.drew ?_ | refine Grow.drewN ?_ _ | refine Grow.trans ?_ (by assumption) | refine Grow.below ?_ (by assumption) (by first | exact Nat.le_refl _ | omega))))).kept hgr6 (fun e => by have := bZ _ e; omega); obtain ⟨t0, t1, t2⟩ := z9.facts)
          refine hK.out _ _ ?_ (fun hHeld => ?_)
          · exact ⟨t0, t1, t2, j1⟩
          clear hK K
          (try simp only [Act.put, List.setIfInBounds_toArray, List.set_cons_zero, List.set_cons_succ])
          refine pop_take 17 (v := ?_) rfl (by kernel_rfl) (by kernel_rfl) (by kernel_rfl) (fun _ _ _ h => h) (by rfl) (by assumption) ?_ ?_
          rotate_left 1
          · (intro W hSw; (try dsimp only at hSw); go_simp; (try with_reducible rfl))
          (try simp only [Act.put, List.setIfInBounds_toArray, List.set_cons_zero, List.set_cons_succ])
          refine wpAnyH_done (by kernel_rfl) ?_ _
          simp only [lastPost]
          have HV := Lib.hid (show z ++ [Pl.sbA x y h[k]] = (h.take (k + 1)).map (Pl.sbA x y) by rw [HZ.out, take_snoc h k hlt, List.map_append]; rfl)
          have q : Grow wa (w5.alloc (.cells #[.int .i64 h[k].k, .int .i64 (Pl.sw h[k].a x y), .int .i64 (Pl.sw h[k].b x y)] 45)) := (by repeat (first | exact Grow.refl _ | assumption | refine Grow.alloc ?_ _ | refine Grow.drew ?_ | refine Grow.drewN ?_ _ | refine Grow.trans ?_ (by assumption) | refine Grow.below ?_ (by assumption) (by first | exact Nat.le_refl _ | omega)))
          have hq := q.le
          have G6 : Grow w w6 := (G.trans q).below hb6 (by omega)
          have hs6 := hb6.size
          replace y0 := (y0.grow q).bel hb6 (by omega)
          replace y1 := (y1.grow q).bel hb6 (by omega)
          replace oU : OFacts _ (w.heap.size + 3) (.slice A2 u.length c2) u := own_blw (own_grow oU q) hb6 (fun k hk => (bA k hk).2)
          replace oU : OFacts _ (w.heap.size + 3) (.slice A2 u.length c2) u := own_far_lo (p := ⟨w.heap.size + 1 + 1, 1, none⟩) oU (by show w.heap.size + 1 + 1 < w.heap.size + 3; omega) (.slice A3 (z.length + 1) c3)
          replace z7 := z7.set1 (.slice A3 (z.length + 1) c3)
          have o7 := oatoms_snc (own_far_lo (p := ⟨w.heap.size + 1 + 1, 1, none⟩) ho6 (by show w.heap.size + 1 + 1 < wo.heap.size; omega) (.slice A3 (z.length + 1) c3))
          clear k0 k1 r0 r1 r2 g4 g5 q hgr6 hat6 hb6 y7 y9 z9 t0 t1 t2 oZ ho6 bZ hHeld
          go_simp
          go_wp2
          go_roundw
          case rel => exact ⟨k + 1, z ++ [Pl.sbA x y h[k]], A3, c3, by omega, by go_num, by rw [List.length_append, HL.out]; rfl, HV, G6.setCell (by show w.heap.size ≤ w.heap.size + 1 + 1; omega) _, by show wo.heap.size ≤ (w6.setCell _ _).heap.size; simp [World.setCell]; omega, y0.far (by show w.heap.size ≠ w.heap.size + 1 + 1; omega) _, y1.far (by show w.heap.size + 1 ≠ w.heap.size + 1 + 1; omega) _, by rw [List.length_append]; exact z7, oU, o7⟩
          case measure => simp [intOf]; omega
        · have hk' : k = h.length := by omega
          have HH := Lib.hid (show z = h.map (Pl.sbA x y) by rw [HZ.out, hk']; simp)
          obtain ⟨k0, k1, _, _⟩ := y0.facts
          obtain ⟨l0, l1, _, _⟩ := y7.facts
          obtain ⟨j0, j1, e0, e1⟩ := y1.facts
          clear HZ hk' HL
          go_wp2_with fail
          refine bodyPost_ret (v := .agg #[.slice A2 u.length c2, .slice A4 z.length c4]) (by simp [results, Try.results30, go_sem, j0, j1]) rfl ⟨A2, A4, c2, c4, by rw [HF.out, HH.out]; rfl, ⟨?_, ?_, ?_⟩, ?_⟩
          · have oF : OFacts wr (w.heap.size + 3) (.slice A2 (v.map (Pl.sbF x y)).length c2) (v.map (Pl.sbF x y)) := by rw [← HF.out]; exact oU
            exact own_lo (own_far_lo (own_far_lo oF (by show w.heap.size + 1 < _; omega) _) (by show w.heap.size + 1 < _; omega) _) (by omega)
          · have oH : OAtoms wr wo.heap.size (.slice A4 (h.map (Pl.sbA x y)).length c4) (h.map (Pl.sbA x y)) := by rw [← HH.out]; exact oZ
            exact own_lo (own_far_lo (own_far_lo oH (by show w.heap.size + 1 < _; omega) _) (by show w.heap.size + 1 < _; omega) _) (by omega)
          · exact Bd.apart (show Bd _ _ (.slice A2 (v.map (Pl.sbF x y)).length c2) by rw [← HF.out]; exact bA) (own_bd (show OAtoms wr wo.heap.size (.slice A4 (h.map (Pl.sbA x y)).length c4) (h.map (Pl.sbA x y)) by rw [← HH.out]; exact oZ)) (.inl (Nat.le_refl _))
          · exact (G.setCell (by show w.heap.size ≤ w.heap.size + 1; omega) _).setCell (by show w.heap.size ≤ w.heap.size + 1; omega) _

end Go.Proofs.Ytlcijjbeikoppaa
