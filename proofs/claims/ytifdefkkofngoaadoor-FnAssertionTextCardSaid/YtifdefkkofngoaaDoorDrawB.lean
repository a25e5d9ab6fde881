/- The draw of a valid assertion. No conditions but the bounds on what the reader has picked. -/
import Derived.Test.YtifdefkkofngoaaDoorDrawA
import Derived.Test.YtifdefkkofngoaaDoorAs8
namespace Go.Proofs.YtifdefkkofngoaaDoor
open Go.RowKit
set_option linter.unusedVariables false

theorem numsA {a : Int} (h : a ∈ ([1, 2, 3, 5] : List Int)) : Pl.tmB a = true := (Pl.tmB_iff a).2 (by simp at h; omega)
theorem numsB {a : Int} (h : a ∈ ([0, 2, 3, 1, 6] : List Int)) : Pl.tmB a = true := (Pl.tmB_iff a).2 (by simp at h; omega)

set_option maxRecDepth 100000 in
set_option maxHeartbeats 3200000 in
theorem l3Draw_c (g q : Nat) (w : World) (hr : RD w g q) (hq : q ≤ 800000) :
    Calls Tryd.prog 84 #[.pointer (some ⟨g, 0, none⟩)] w fun e w' => (∃ A B c d s, e = .returned (asval A B c d s) ∧ OAs w' w.heap.size A B c d s ∧ Pl.asv s = true ∧ s.f.length ≤ 2 ∧ s.a.length ≤ 4) ∧ RD w' g (q + 30) ∧ w.grownBy w' (some g) := by
  have hlt := hr.lt
  obtain ⟨i0, hi, hz0, hz1, hz2⟩ := info_parts fact_info
  obtain ⟨i1, hj, hy0, hy1, hy2⟩ := info_parts atom_info
  have y2 := Box2.new w 46 (.slice none 0 0) (.slice none 0 0)
  have y3 := Box2.new (w.alloc (.cells #[.slice none 0 0, .slice none 0 0] 46)) 46 (.slice none 0 0) (.slice none 0 0)
  simp only [World.size_alloc] at y3
  go_enter Tryd.func84, Tryd.ntmps84
  go_wp2_with fail
  have h0 := lit_own ((w.alloc (.cells #[.slice none 0 0, .slice none 0 0] 46)).alloc (.cells #[.slice none 0 0, .slice none 0 0] 46)) [1, 0, 2, 0] _ rfl (by simp)
  refine (num_c g q 4 (w.heap.size + 1 + 1) _ [1, 0, 2, 0] _ (hr.grow (by repeat (first | exact Grow.refl _ | assumption | refine Grow.alloc ?_ _ | refine Grow.drew ?_ | refine Grow.drewN ?_ _ | refine Grow.trans ?_ (by assumption) | refine Grow.below ?_ (by assumption) (by first | exact Nat.le_refl _ | omega)))) (by omega) (by simp) (by simp) (by simpa using h0) (by omega)).mono ?_
  rintro e w1 ⟨⟨n0, hn0, rfl⟩, hr1, b1⟩
  have hn2 : 0 ≤ n0 ∧ n0 ≤ 2 := by simp at hn0; omega
  obtain ⟨n, rfl⟩ := Int.eq_ofNat_of_zero_le hn2.1
  have hnn : n ≤ 2 := by omega
  have B1 : w.grownBy w1 (some g) := by_trans (by_alloc (by_alloc (by_alloc (World.grownBy.refl _ _) _) _) _) b1
  have hs1 := b1.size
  simp only [World.size_alloc] at hs1
  replace y2 := (y2.grow (show Grow _ (((w.alloc (.cells #[.slice none 0 0, .slice none 0 0] 46)).alloc (.cells #[.slice none 0 0, .slice none 0 0] 46)).alloc _) from Grow.alloc (Grow.alloc (Grow.refl _) _) _)).kept b1 (by intro e; injection e with e; omega)
  replace y3 := (y3.grow (show Grow _ (((w.alloc (.cells #[.slice none 0 0, .slice none 0 0] 46)).alloc (.cells #[.slice none 0 0, .slice none 0 0] 46)).alloc _) from Grow.alloc (Grow.refl _) _)).kept b1 (by intro e; injection e with e; omega)
  clear h0 b1 hr hn0 hn2
  go_wp2_with fail
  go_loopw [4] (fun i wr => ∃ (k : Nat) (u : List Pl.Fct) (A2 : Option Addr) (c2 : Nat), k ≤ 2 ∧ i = .int .i64 k ∧ u.length + k ≤ 2 ∧ Hid (∀ f ∈ u, Pl.fv f = true) ∧ RD wr g (q + 1 + 3 * (2 - k)) ∧ w.grownBy wr (some g) ∧ w.heap.size + 2 ≤ wr.heap.size ∧ Box2 wr w.heap.size 46 (.slice none 0 0) (.slice none 0 0) ∧ Box2 wr (w.heap.size + 1) 46 (.slice A2 u.length c2) (.slice none 0 0) ∧ OFacts wr (w.heap.size + 2) (.slice A2 u.length c2) u) (fun i _ => (intOf i).toNat)
  case atStart => exact ⟨n, [], none, 0, hnn, rfl, by simpa using hnn, Lib.hid (by simp), hr1.more (by omega), B1, by omega, y2, y3, ⟨rfl, .inl ⟨rfl, rfl⟩⟩⟩
  case round =>
    clear hr1 B1 y2 y3 hs1 hnn
    obtain ⟨k, u, A2, c2, hk, rfl, huk, HU, hr1, B1, hs1, y2, y3, oU⟩ := hrel
    by_cases hk0 : 0 < k
    · have hk1 : (0 : Int) < (k : Int) := by omega
      obtain ⟨k0, k1, _, _⟩ := y3.facts
      have hne : ¬ w.heap.size + 1 = g := by omega
      go_wp2_with fail
      have hF0 : Dv wr g (q + 1 + 3 * (2 - k)) [] wr := Dv.start hr1
      refine pop_begin (S := (fun W => W.cell? ⟨w.heap.size + 1, 0, none⟩ = some (.slice A2 u.length c2))) (by kernel_rfl) (by kernel_rfl) (by kernel_rfl) rfl ?_ ?_
      · exact k0
      intro l last hl hlast hHeld
      simp only [List.dropLast] at hl
      simp only [List.getLast?, List.getLast, Option.some.injEq] at hlast
      subst hl
      subst hlast
      have hF := hF0.drew
      clear hF0
      generalize wr.drew = W0 at *
      refine pop_take 0 (v := ?_) rfl (by kernel_rfl) (by kernel_rfl) (by kernel_rfl) (fun _ _ _ h => h) (by rfl) (by assumption) ?_ ?_
      rotate_left 1
      · (intro W hSw; (try dsimp only at hSw); go_simp; (try with_reducible rfl))
      (try simp only [Act.put, List.setIfInBounds_toArray, List.set_cons_zero, List.set_cons_succ])
      refine pop_take 1 (v := ?_) rfl (by kernel_rfl) (by kernel_rfl) (by kernel_rfl) (fun _ _ _ h => h) (by rfl) (by assumption) ?_ ?_
      rotate_left 1
      · (intro W hSw; (try dsimp only at hSw); go_simp; (try with_reducible rfl))
      (try simp only [Act.put, List.setIfInBounds_toArray, List.set_cons_zero, List.set_cons_succ])
      refine pop_take 2 (v := ?_) rfl (by kernel_rfl) (by kernel_rfl) (by kernel_rfl) (fun _ _ _ h => h) (by rfl) (by assumption) ?_ ?_
      rotate_left 1
      · (intro W hSw; (try dsimp only at hSw); go_simp; (try with_reducible rfl))
      (try simp only [Act.put, List.setIfInBounds_toArray, List.set_cons_zero, List.set_cons_succ])
      refine pop_take 5 (v := ?_) rfl (by kernel_rfl) (by kernel_rfl) (by kernel_rfl) (fun _ _ _ h => h) (by rfl) (by assumption) ?_ ?_
      rotate_left 1
      · (intro W hSw; (try dsimp only at hSw); go_simp; (try with_reducible rfl))
      (try simp only [Act.put, List.setIfInBounds_toArray, List.set_cons_zero, List.set_cons_succ])
      refine pop_take 8 (v := ?_) rfl (by kernel_rfl) (by kernel_rfl) (by kernel_rfl) (fun _ _ _ h => h) (by rfl) (by assumption) ?_ ?_
      rotate_left 1
      · (intro W hSw; (try dsimp only at hSw); go_simp; (try with_reducible rfl))
      (try simp only [Act.put, List.setIfInBounds_toArray, List.set_cons_zero, List.set_cons_succ])
      repeat' (first
        | (refine pop_three 3 6 9 (by decide +kernel) rfl rfl rfl (fun K hK => ?_) (fun K hK => ?_) (fun K hK => ?_))
        | (refine pop_two 6 9 (by decide +kernel) rfl rfl (fun K hK => ?_) (fun K hK => ?_))
        | (refine pop_two 3 9 (by decide +kernel) rfl rfl (fun K hK => ?_) (fun K hK => ?_))
        | (refine pop_two 3 6 (by decide +kernel) rfl rfl (fun K hK => ?_) (fun K hK => ?_))
        | (refine pop_two 7 9 (by decide +kernel) rfl rfl (fun K hK => ?_) (fun K hK => ?_))
        | (refine pop_one 3 (by decide +kernel) rfl (fun K hK => ?_))
        | (refine pop_one 6 (by decide +kernel) rfl (fun K hK => ?_))
        | (refine pop_one 7 (by decide +kernel) rfl (fun K hK => ?_))
        | (refine pop_one 9 (by decide +kernel) rfl (fun K hK => ?_))
        | (refine pop_one 10 (by decide +kernel) rfl (fun K hK => ?_))
        | (refine pop_take 4 (v := ?_) rfl (by kernel_rfl) (by kernel_rfl) (by decide +kernel) (fun _ _ _ h => h) (by rfl) (by assumption) ?_ ?_; rotate_left 1; (focus (intro W hSw; (try dsimp only at hSw); go_simp; (try with_reducible rfl))); (try simp only [Act.put, List.setIfInBounds_toArray, List.set_cons_zero, List.set_cons_succ]))
        | (with_reducible refine arm_in ?_; go_simp; first
          | (go_at_call 61; (with_reducible refine (hF.pick 3 _ (by simp) (by omega) (by omega) (by omega)).mono ?_); rintro e Wp ⟨⟨v, hv, rfl⟩, hF⟩; go_wp2_with fail; refine hK.out _ _ (hF.cell k0 hne) (fun hHeld => ?_); clear hK K; (try simp only [Act.put, List.setIfInBounds_toArray, List.set_cons_zero, List.set_cons_succ]))
          | (go_at_call 96; (with_reducible refine (hF.num _ _ _ [1, 2, 3, 5] (by simp) (by decide) (by decide) (by omega) (by simp) (by simp)).mono ?_); rintro e Wa ⟨⟨a, ha, rfl⟩, hF⟩; go_wp2_with fail; refine hK.out _ _ (hF.cell k0 hne) (fun hHeld => ?_); clear hK K; (try simp only [Act.put, List.setIfInBounds_toArray, List.set_cons_zero, List.set_cons_succ]))
          | (go_at_call 96; (with_reducible refine (hF.num _ _ _ [0, 2, 3, 1, 6] (by simp) (by decide) (by decide) (by omega) (by simp) (by simp)).mono ?_); rintro e Wb ⟨⟨b, hb, rfl⟩, hF⟩; go_wp2_with fail; refine hK.out _ _ (hF.cell k0 hne) (fun hHeld => ?_); clear hK K; (try simp only [Act.put, List.setIfInBounds_toArray, List.set_cons_zero, List.set_cons_succ]))
          | ((with_reducible refine hF.lit [1, 2, 3, 5] _ (by first | (simp; done) | fail) (by simp) ?_); intro Wl hF; refine hK.out _ _ (hF.cell k0 hne) (fun hHeld => ?_); clear hK K; (try simp only [Act.put, List.setIfInBounds_toArray, List.set_cons_zero, List.set_cons_succ]))
          | ((with_reducible refine hF.lit [0, 2, 3, 1, 6] _ (by first | (simp; done) | fail) (by simp) ?_); intro Wl hF; refine hK.out _ _ (hF.cell k0 hne) (fun hHeld => ?_); clear hK K; (try simp only [Act.put, List.setIfInBounds_toArray, List.set_cons_zero, List.set_cons_succ]))
          | fail)
        | fail)
      all_goals
        have oW : OFacts Wb (w.heap.size + 2) (.slice A2 u.length c2) u := own_kept oU hF.by_ (fun j hj e => by have := (own_blk oU j hj).1; injection e with e; omega)
        have z3 := y3.kept hF.by_ (by intro e; injection e with e; omega)
        have z2 := y2.kept hF.by_ (by intro e; injection e with e; omega)
        have hsF := hF.by_.size
        have hvf : Pl.fv ⟨((v : Int) == 0), a, b⟩ = true := (Pl.fv_iff _).2 ⟨(Pl.tmB_iff a).1 (numsA ha), (Pl.tmB_iff b).1 (numsB hb)⟩
        have hu3 : u.length ≤ 2 := by omega
        clear oU y3 y2 ha hb hv k0 k1
        refine pop_take 11 (v := ?_) rfl (by kernel_rfl) (by kernel_rfl) (by kernel_rfl) (fun _ _ _ h => h) (by rfl) (by assumption) ?_ ?_
        rotate_left 1
        · (intro W hSw; (try dsimp only at hSw); go_simp; (try with_reducible rfl))
        (try simp only [Act.put, List.setIfInBounds_toArray, List.set_cons_zero, List.set_cons_succ])
        refine pop_one 12 (by kernel_rfl) rfl (fun K hK => ?_)
        go_simp
        refine hK.out _ _ ?_ (fun hHeld => ?_)
        · exact (Grow.alloc (Grow.refl _) _).cell hHeld
        clear hK K
        (try simp only [Act.put, List.setIfInBounds_toArray, List.set_cons_zero, List.set_cons_succ])
        refine pop_one 13 (by kernel_rfl) rfl (fun K hK => ?_)
        (refine step_append_src _ (by rfl) (.tmp 15) (.tmp 26) 43 (by rfl) (w.heap.size + 2) 78 i0 _ 3 24 Tryd.underlying43 hi hz0 hz1 hz2 rfl (by omega) _ u.length (u.flatMap fcells) (by rfl) (own_grow oW (by repeat (first | exact Grow.refl _ | assumption | refine Grow.alloc ?_ _ | refine Grow.drew ?_ | refine Grow.drewN ?_ _ | refine Grow.trans ?_ (by assumption) | refine Grow.below ?_ (by assumption) (by first | exact Nat.le_refl _ | omega)))) _ 1 1 (fcells ⟨((v : Int) == 0), a, b⟩) (by rfl) (by rfl) (Cells.block (heap_alloc_new _ _)) (fcells_one _) (by unfold maxLen; omega) (by omega) (by simp; omega) (u.length + 1) rfl ((u ++ [(⟨((v : Int) == 0), a, b⟩ : Pl.Fct)]).flatMap fcells) (by rw [List.flatMap_append]; simp) ?_; intro A3 c3 w6 ho6 hgr6 hat6 hb6; have z7 := (z3.grow (show Grow Wb _ from (by repeat (first | exact Grow.refl _ | assumption | refine Grow.alloc ?_ _ | refine Grow.drew ?_ | refine Grow.drewN ?_ _ | refine Grow.trans ?_ (by assumption) | refine Grow.below ?_ (by assumption) (by first | exact Nat.le_refl _ | omega))))).bel hb6 (by omega); obtain ⟨j0, j1, e0, e1⟩ := z7.facts)
        refine hK.out _ _ ?_ (fun hHeld => ?_)
        · exact j0
        clear hK K
        (try simp only [Act.put, List.setIfInBounds_toArray, List.set_cons_zero, List.set_cons_succ])
        refine pop_take 14 (v := ?_) rfl (by kernel_rfl) (by kernel_rfl) (by kernel_rfl) (fun _ _ _ h => h) (by rfl) (by assumption) ?_ ?_
        rotate_left 1
        · (intro W hSw; (try dsimp only at hSw); go_simp; (try with_reducible rfl))
        (try simp only [Act.put, List.setIfInBounds_toArray, List.set_cons_zero, List.set_cons_succ])
        refine wpAnyH_done (by kernel_rfl) ?_ _
        simp only [lastPost]
        have hs6 := hb6.size
        simp only [World.size_alloc] at hs6
        have RD6 := ((hF.rd.grow (show Grow Wb _ from (by repeat (first | exact Grow.refl _ | assumption | refine Grow.alloc ?_ _ | refine Grow.drew ?_ | refine Grow.drewN ?_ _ | refine Grow.trans ?_ (by assumption) | refine Grow.below ?_ (by assumption) (by first | exact Nat.le_refl _ | omega))))).below hb6 (by omega))
        have B6 := by_below (by_grow (by_trans B1 hF.by_) (show Grow Wb _ from (by repeat (first | exact Grow.refl _ | assumption | refine Grow.alloc ?_ _ | refine Grow.drew ?_ | refine Grow.drewN ?_ _ | refine Grow.trans ?_ (by assumption) | refine Grow.below ?_ (by assumption) (by first | exact Nat.le_refl _ | omega))))) hb6 (by omega)
        have z8 := (z2.grow (show Grow Wb _ from (by repeat (first | exact Grow.refl _ | assumption | refine Grow.alloc ?_ _ | refine Grow.drew ?_ | refine Grow.drewN ?_ _ | refine Grow.trans ?_ (by assumption) | refine Grow.below ?_ (by assumption) (by first | exact Nat.le_refl _ | omega))))).bel hb6 (by omega)
        have o7 := ofacts_snc (own_far_lo (p := ⟨w.heap.size + 1, 0, none⟩) ho6 (by show w.heap.size + 1 < w.heap.size + 2; omega) (.slice A3 (u.length + 1) c3))
        replace z7 := z7.set0 (.slice A3 (u.length + 1) c3)
        have HV := Lib.hid (show ∀ f ∈ u ++ [(⟨((v : Int) == 0), a, b⟩ : Pl.Fct)], Pl.fv f = true from fun f' hf' => by
          rcases List.mem_append.1 hf' with h | h
          · exact HU.out f' h
          · rw [List.mem_singleton.1 h]; exact hvf)
        clear hgr6 hat6 hb6 z3 z2 hF oW ho6 hHeld hvf
        go_simp
        go_wp2
        go_roundw
        case rel => exact ⟨k - 1, u ++ [⟨((v : Int) == 0), a, b⟩], A3, c3, by omega, congrArg (Value.int .i64) (by omega), by rw [List.length_append]; simp; omega, HV, (rd_far RD6 (by show g < w.heap.size + 1; omega) _).more (by omega), by_set1 B6 (by show w.heap.size ≤ w.heap.size + 1; omega) _, by show w.heap.size + 2 ≤ (w6.setCell _ _).heap.size; simp [World.setCell]; omega, z8.far (by show w.heap.size ≠ w.heap.size + 1; omega) _, by rw [List.length_append]; exact z7, o7⟩
        case measure => simp [intOf]; omega
    · have hk1 : (k : Int) ≤ 0 := by omega
      have hk' : k = 0 := by omega
      have hu2 : u.length ≤ 2 := by omega
      have hbig : (q + 1 + 3 * (2 - k)) ≤ q + 7 := by omega
      replace hr1 := hr1.more hbig
      clear hk' hbig
      go_wp2_with fail
      have h0 := lit_own wr [2, 1, 3, 2, 0, 4] _ rfl (by simp)
      refine (num_c g (q + 7) 6 wr.heap.size _ [2, 1, 3, 2, 0, 4] _ (hr1.grow (by repeat (first | exact Grow.refl _ | assumption | refine Grow.alloc ?_ _ | refine Grow.drew ?_ | refine Grow.drewN ?_ _ | refine Grow.trans ?_ (by assumption) | refine Grow.below ?_ (by assumption) (by first | exact Nat.le_refl _ | omega)))) (by omega) (by simp) (by simp) h0 (by omega)).mono ?_
      rintro e w2 ⟨⟨m0, hm0, rfl⟩, hr2, b2⟩
      have hm4 : 0 ≤ m0 ∧ m0 ≤ 4 := by simp at hm0; omega
      obtain ⟨m, rfl⟩ := Int.eq_ofNat_of_zero_le hm4.1
      have hmm : m ≤ 4 := by omega
      have B2 := by_trans (by_alloc B1 _) b2
      have bA := own_bd oU
      have oV : OFacts w2 (w.heap.size + 2) (.slice A2 u.length c2) u := own_kept (own_grow oU (show Grow wr _ from (by repeat (first | exact Grow.refl _ | assumption | refine Grow.alloc ?_ _ | refine Grow.drew ?_ | refine Grow.drewN ?_ _ | refine Grow.trans ?_ (by assumption) | refine Grow.below ?_ (by assumption) (by first | exact Nat.le_refl _ | omega))))) b2 (fun j hj e => by have := (own_blk oU j hj).1; injection e with e; omega)
      replace y2 := (y2.grow (show Grow wr (wr.alloc _) from Grow.alloc (Grow.refl _) _)).kept b2 (by intro e; injection e with e; omega)
      replace y3 := (y3.grow (show Grow wr (wr.alloc _) from Grow.alloc (Grow.refl _) _)).kept b2 (by intro e; injection e with e; omega)
      have hs2 := b2.size
      simp only [World.size_alloc] at hs2
      clear h0 b2 hr1 hm0 hm4 oU B1
      go_wp2_with fail
      obtain ⟨wo, rfl⟩ : ∃ wo : World, wo = w2 := ⟨_, rfl⟩
      go_loopw [5] (fun i wr => ∃ (k : Nat) (z : List Pl.Atm) (A4 : Option Addr) (c4 : Nat), k ≤ 4 ∧ i = .int .i64 k ∧ z.length + k ≤ 4 ∧ Hid (∀ x ∈ z, Pl.av x = true) ∧ RD wr g (q + 8 + 3 * (4 - k)) ∧ w.grownBy wr (some g) ∧ wo.heap.size ≤ wr.heap.size ∧ Box2 wr w.heap.size 46 (.slice none 0 0) (.slice none 0 0) ∧ Box2 wr (w.heap.size + 1) 46 (.slice A2 u.length c2) (.slice A4 z.length c4) ∧ OFacts wr (w.heap.size + 2) (.slice A2 u.length c2) u ∧ OAtoms wr wo.heap.size (.slice A4 z.length c4) z) (fun i _ => (intOf i).toNat)
      case atStart => exact ⟨m, [], none, 0, hmm, rfl, by simpa using hmm, Lib.hid (by simp), hr2.more (by omega), B2, Nat.le_refl _, y2, y3, oV, ⟨rfl, .inl ⟨rfl, rfl⟩⟩⟩
      case round =>
        clear hr2 B2 y2 y3 oV hmm huk hk hk1 hk0
        obtain ⟨k, z, A4, c4, hk, rfl, hzk, HZ, hr1, B1, hzo, y2, y3, oU, oZ⟩ := hrel
        by_cases hk0 : 0 < k
        · have hk1 : (0 : Int) < (k : Int) := by omega
          obtain ⟨k0, k1, _, _⟩ := y3.facts
          have hne : ¬ w.heap.size + 1 = g := by omega
          go_wp2_with fail
          refine pop_begin (S := (fun W => W.cell? ⟨w.heap.size + 1, 1, none⟩ = some (.slice A4 z.length c4))) (by kernel_rfl) (by kernel_rfl) (by kernel_rfl) rfl ?_ ?_
          · exact k1
          intro l last hl hlast hHeld
          simp only [List.dropLast] at hl
          simp only [List.getLast?, List.getLast, Option.some.injEq] at hlast
          subst hl
          subst hlast
          refine pop_take 0 (v := ?_) rfl (by kernel_rfl) (by kernel_rfl) (by kernel_rfl) (fun _ _ _ h => h) (by rfl) (by assumption) ?_ ?_
          rotate_left 1
          · (intro W hSw; (try dsimp only at hSw); go_simp; (try with_reducible rfl))
          (try simp only [Act.put, List.setIfInBounds_toArray, List.set_cons_zero, List.set_cons_succ])
          refine pop_take 1 (v := ?_) rfl (by kernel_rfl) (by kernel_rfl) (by kernel_rfl) (fun _ _ _ h => h) (by rfl) (by assumption) ?_ ?_
          rotate_left 1
          · (intro W hSw; (try dsimp only at hSw); go_simp; (try with_reducible rfl))
          (try simp only [Act.put, List.setIfInBounds_toArray, List.set_cons_zero, List.set_cons_succ])
          refine pop_take 2 (v := ?_) rfl (by kernel_rfl) (by kernel_rfl) (by kernel_rfl) (fun _ _ _ h => h) (by rfl) (by assumption) ?_ ?_
          rotate_left 1
          · (intro W hSw; (try dsimp only at hSw); go_simp; (try with_reducible rfl))
          (try simp only [Act.put, List.setIfInBounds_toArray, List.set_cons_zero, List.set_cons_succ])
          refine pop_one 3 (by kernel_rfl) rfl (fun K hK => ?_)
          go_simp
          (go_at_call 107; (with_reducible refine (l3Point_c g (q + 8 + 3 * (4 - k)) _ (hr1.grow (by repeat (first | exact Grow.refl _ | assumption | refine Grow.alloc ?_ _ | refine Grow.drew ?_ | refine Grow.drewN ?_ _ | refine Grow.trans ?_ (by assumption) | refine Grow.below ?_ (by assumption) (by first | exact Nat.le_refl _ | omega)))) (by omega)).mono ?_); rintro e w3 ⟨⟨x, hx, rfl⟩, hr3, b3⟩)
          go_wp2_with fail
          refine hK.out _ _ ?_ (fun hHeld => ?_)
          · exact b3.cell hHeld (by intro e; injection e with e; exact hne e)
          clear hK K
          (try simp only [Act.put, List.setIfInBounds_toArray, List.set_cons_zero, List.set_cons_succ])
          have b4 : wr.grownBy w3 (some g) := by_trans ((show Grow wr wr.drew from (by repeat (first | exact Grow.refl _ | assumption | refine Grow.alloc ?_ _ | refine Grow.drew ?_ | refine Grow.drewN ?_ _ | refine Grow.trans ?_ (by assumption) | refine Grow.below ?_ (by assumption) (by first | exact Nat.le_refl _ | omega)))).by_ _) b3
          have oV : OFacts w3 (w.heap.size + 2) (.slice A2 u.length c2) u := own_kept oU b4 (fun j hj e => by have := (own_blk oU j hj).1; injection e with e; omega)
          have oY : OAtoms w3 wo.heap.size (.slice A4 z.length c4) z := own_kept oZ b4 (fun j hj e => by have := (own_blk oZ j hj).1; injection e with e; omega)
          have z3 := y3.kept b4 (by intro e; injection e with e; omega)
          have z2 := y2.kept b4 (by intro e; injection e with e; omega)
          have hsF := b4.size
          have B3 := by_trans B1 b4
          have hz4 : z.length ≤ 4 := by omega
          clear oU oZ y3 y2 k0 k1 b3 b4 hr1 B1
          refine pop_one 4 (by kernel_rfl) rfl (fun K hK => ?_)
          go_simp
          refine hK.out _ _ ?_ (fun hHeld => ?_)
          · exact (Grow.alloc (Grow.refl _) _).cell hHeld
          clear hK K
          (try simp only [Act.put, List.setIfInBounds_toArray, List.set_cons_zero, List.set_cons_succ])
          refine pop_one 5 (by kernel_rfl) rfl (fun K hK => ?_)
          (refine step_append_src _ (by rfl) (.tmp 37) (.tmp 40) 44 (by rfl) wo.heap.size 82 i1 _ 3 24 Tryd.underlying44 hj hy0 hy1 hy2 rfl (by omega) _ z.length (z.flatMap xcells) (by rfl) (own_grow oY (by repeat (first | exact Grow.refl _ | assumption | refine Grow.alloc ?_ _ | refine Grow.drew ?_ | refine Grow.drewN ?_ _ | refine Grow.trans ?_ (by assumption) | refine Grow.below ?_ (by assumption) (by first | exact Nat.le_refl _ | omega)))) _ 1 1 (xcells x) (by rfl) (by rfl) (Cells.block (heap_alloc_new _ _)) (xcells_one _) (by unfold maxLen; omega) (by omega) (by simp; omega) (z.length + 1) rfl ((z ++ [x]).flatMap xcells) (by rw [List.flatMap_append]; simp) ?_; intro A3 c3 w6 ho6 hgr6 hat6 hb6; have z7 := (z3.grow (show Grow w3 _ from (by repeat (first | exact Grow.refl _ | assumption | refine Grow.alloc ?_ _ | refine Grow.drew ?_ | refine Grow.drewN ?_ _ | refine Grow.trans ?_ (by assumption) | refine Grow.below ?_ (by assumption) (by first | exact Nat.le_refl _ | omega))))).bel hb6 (by omega); obtain ⟨j0, j1, e0, e1⟩ := z7.facts)
          refine hK.out _ _ ?_ (fun hHeld => ?_)
          · exact j1
          clear hK K
          (try simp only [Act.put, List.setIfInBounds_toArray, List.set_cons_zero, List.set_cons_succ])
          refine pop_take 6 (v := ?_) rfl (by kernel_rfl) (by kernel_rfl) (by kernel_rfl) (fun _ _ _ h => h) (by rfl) (by assumption) ?_ ?_
          rotate_left 1
          · (intro W hSw; (try dsimp only at hSw); go_simp; (try with_reducible rfl))
          (try simp only [Act.put, List.setIfInBounds_toArray, List.set_cons_zero, List.set_cons_succ])
          refine wpAnyH_done (by kernel_rfl) ?_ _
          simp only [lastPost]
          have hs6 := hb6.size
          simp only [World.size_alloc] at hs6
          have RD6 := ((hr3.grow (show Grow w3 _ from (by repeat (first | exact Grow.refl _ | assumption | refine Grow.alloc ?_ _ | refine Grow.drew ?_ | refine Grow.drewN ?_ _ | refine Grow.trans ?_ (by assumption) | refine Grow.below ?_ (by assumption) (by first | exact Nat.le_refl _ | omega))))).below hb6 (by omega))
          have B6 := by_below (by_grow B3 (show Grow w3 _ from (by repeat (first | exact Grow.refl _ | assumption | refine Grow.alloc ?_ _ | refine Grow.drew ?_ | refine Grow.drewN ?_ _ | refine Grow.trans ?_ (by assumption) | refine Grow.below ?_ (by assumption) (by first | exact Nat.le_refl _ | omega))))) hb6 (by omega)
          have z8 := (z2.grow (show Grow w3 _ from (by repeat (first | exact Grow.refl _ | assumption | refine Grow.alloc ?_ _ | refine Grow.drew ?_ | refine Grow.drewN ?_ _ | refine Grow.trans ?_ (by assumption) | refine Grow.below ?_ (by assumption) (by first | exact Nat.le_refl _ | omega))))).bel hb6 (by omega)
          have oV6 : OFacts w6 (w.heap.size + 2) (.slice A2 u.length c2) u := own_blw (own_grow oV (show Grow w3 _ from (by repeat (first | exact Grow.refl _ | assumption | refine Grow.alloc ?_ _ | refine Grow.drew ?_ | refine Grow.drewN ?_ _ | refine Grow.trans ?_ (by assumption) | refine Grow.below ?_ (by assumption) (by first | exact Nat.le_refl _ | omega))))) hb6 (fun j hj => by have := (bA j hj).2; omega)
          have oV7 := own_far_lo (p := ⟨w.heap.size + 1, 1, none⟩) oV6 (by show w.heap.size + 1 < w.heap.size + 2; omega) (.slice A3 (z.length + 1) c3)
          have o7 := oatoms_snc (own_far_lo (p := ⟨w.heap.size + 1, 1, none⟩) ho6 (by show w.heap.size + 1 < wo.heap.size; omega) (.slice A3 (z.length + 1) c3))
          replace z7 := z7.set1 (.slice A3 (z.length + 1) c3)
          have HV := Lib.hid (show ∀ f ∈ z ++ [x], Pl.av f = true from fun f' hf' => by
            rcases List.mem_append.1 hf' with h | h
            · exact HZ.out f' h
            · rw [List.mem_singleton.1 h]; exact hx)
          clear hgr6 hat6 hb6 z3 z2 oV oY ho6 hHeld oV6
          go_simp
          go_wp2
          go_roundw
          case rel => exact ⟨k - 1, z ++ [x], A3, c3, by omega, congrArg (Value.int .i64) (by omega), by rw [List.length_append]; simp; omega, HV, (rd_far RD6 (by show g < w.heap.size + 1; omega) _).more (by omega), by_set1 B6 (by show w.heap.size ≤ w.heap.size + 1; omega) _, by show wo.heap.size ≤ (w6.setCell _ _).heap.size; simp [World.setCell]; omega, z8.far (by show w.heap.size ≠ w.heap.size + 1; omega) _, by rw [List.length_append]; exact z7, oV7, o7⟩
          case measure => simp [intOf]; omega
        · have hk1 : (k : Int) ≤ 0 := by omega
          obtain ⟨k0, k1, _, _⟩ := y3.facts
          obtain ⟨j0, j1, e0, e1⟩ := y2.facts
          have HA := Lib.hid (show Pl.asv ⟨u, z⟩ = true from (Pl.asv_iff _).2 ⟨(Pl.fsv_iff _).2 ⟨by show u.length ≤ 12; omega, HU.out⟩, by show z.length ≤ 6; omega, HZ.out⟩)
          have hz4 : z.length ≤ 4 := by omega
          go_wp2_with fail
          refine bodyPost_ret (v := .agg #[.slice A2 u.length c2, .slice A4 z.length c4]) (by simp [results, Tryd.results84, go_sem, j0, j1]) rfl ⟨⟨A2, A4, c2, c4, ⟨u, z⟩, rfl, ⟨?_, ?_, ?_⟩, HA.out, hu2, hz4⟩, ?_, ?_⟩
          · exact own_lo (own_far_lo (own_far_lo oU (by show w.heap.size < w.heap.size + 2; omega) _) (by show w.heap.size < w.heap.size + 2; omega) _) (by omega)
          · exact own_lo (own_far_lo (own_far_lo oZ (by show w.heap.size < wo.heap.size; omega) _) (by show w.heap.size < wo.heap.size; omega) _) (by omega)
          · exact Bd.apart bA (own_bd oZ) (.inl (by omega))
          · exact (rd_far (rd_far hr1 hlt _) hlt _).more (by omega)
          · exact by_set1 (by_set1 B1 (Nat.le_refl _) _) (Nat.le_refl _) _

end Go.Proofs.YtifdefkkofngoaaDoor
