/- A text that may be changed in one place. No conditions but the bounds on what the reader has picked. -/
import Derived.Test.YtifdefkkofngoaaDoorTx
import Derived.Test.YtifdefkkofngoaaDoorPg
import Derived.Test.YtifdefkkofngoaaDoorDrawP
namespace Go.Proofs.YtifdefkkofngoaaDoor
open Go.RowKit
set_option linter.unusedVariables false

theorem str_cat (a b : List UInt8) : Pl.str a ++ Pl.str b = Pl.str (a ++ b) := Pl.str_append a b

set_option maxRecDepth 100000 in
set_option maxHeartbeats 1600000 in
theorem l1Bend_c (g q lo c : Nat) (A : Option Addr) (l : List (List UInt8)) (s : List UInt8) (w : World) (hr : RD w g q) (hq : q ≤ 900000) (h1 : 0 < l.length) (h2 : l.length ≤ 100) (ho : OTexts w lo (.slice A l.length c) l) (hlo : g < lo) (hb : ∀ t ∈ l, t.length ≤ 10) (hs : s.length ≤ 100000) :
    Calls Tryd.prog 59 #[.pointer (some ⟨g, 0, none⟩), .string (Pl.str s), .slice A l.length c] w fun e w' => (∃ t : List UInt8, t.length ≤ s.length + 10 ∧ e = .returned (.string (Pl.str t))) ∧ RD w' g (q + 5) ∧ w.grownBy w' (some g) := by
  have hsz : (Pl.str s).size = s.length := Pl.str_size s
  have hlt := hr.lt
  by_cases h0 : s.length = 0
  · have hz : ((s.length : Int) == 0) = true := by simp [h0]
    clear h0
    go_enter Tryd.func59, Tryd.ntmps59
    go_wp2_with fail
    go_ret
    exact ⟨⟨s, by omega, rfl⟩, hr.more (by omega), World.grownBy.refl _ _⟩
  · have hz : ((s.length : Int) == 0) = false := by simp; intro h; exact h0 (by rw [h]; rfl)
    go_enter Tryd.func59, Tryd.ntmps59
    go_wp2_with fail
    refine (pick_c g q 2 _ hr (by omega) (by omega) (by omega)).mono ?_
    rintro e w1 ⟨⟨p, hp, rfl⟩, hr1, b1⟩
    by_cases hp0 : p = 0
    · have hb0 : ((p : Int) == 0) = true := by simp [hp0]
      clear hp0
      go_wp2_with fail
      go_ret
      exact ⟨⟨s, by omega, rfl⟩, hr1.more (by omega), b1⟩
    · have hb0 : ((p : Int) == 0) = false := by simp; omega
      clear hp0
      go_wp2_with fail
      refine (pick_c g (q + 1) s.length _ hr1 (by omega) (by omega) (by omega)).mono ?_
      rintro e w2 ⟨⟨k, hk, rfl⟩, hr2, b2⟩
      have ho2 := own_kept (own_kept ho b1 (fun j hj e => by have := (own_blk ho j hj).1; injection e with e; omega)) b2 (fun j hj e => by have := (own_blk ho j hj).1; injection e with e; omega)
      have B2 := by_trans b1 b2
      have hk1 : (k : Int) ≤ (s.length : Int) := by omega
      have hk2 : (0 : Int) ≤ (k : Int) := by omega
      clear b1 b2 hr hr1 ho
      go_wp2_with fail
      refine wp_region_held_drew (S := (fun W => True)) (by kernel_rfl) ?_ (fun hHeld => ?_)
      · trivial
      refine pop_take 0 (v := ?_) rfl (by kernel_rfl) (by kernel_rfl) (by kernel_rfl) (fun _ _ _ h => h) (by rfl) (by assumption) ?_ ?_
      rotate_left 1
      · (intro W hSw; (try dsimp only at hSw); go_simp; (try with_reducible rfl))
      (try simp only [Act.put, List.setIfInBounds_toArray, List.set_cons_zero, List.set_cons_succ])
      refine pop_take 1 (v := ?_) rfl (by kernel_rfl) (by kernel_rfl) (by kernel_rfl) (fun _ _ _ h => h) (by rfl) (by assumption) ?_ ?_
      rotate_left 1
      · (intro W hSw; (try dsimp only at hSw); go_simp; (try with_reducible rfl))
      (try simp only [Act.put, List.setIfInBounds_toArray, List.set_cons_zero, List.set_cons_succ])
      refine pop_take 2 (v := ?_) rfl (by kernel_rfl) (by kernel_rfl) (by kernel_rfl) (fun _ _ _ h => h) (by rfl) (by assumption) ?_ ?_
      rotate_left 1
      · (intro W hSw; (try dsimp only at hSw); go_simp; (try with_reducible rfl))
      (try simp only [Act.put, List.setIfInBounds_toArray, List.set_cons_zero, List.set_cons_succ])
      refine pop_take 3 (v := ?_) rfl (by kernel_rfl) (by kernel_rfl) (by kernel_rfl) (fun _ _ _ h => h) (by rfl) (by assumption) ?_ ?_
      rotate_left 1
      · (intro W hSw; (try dsimp only at hSw); go_simp; (try with_reducible rfl))
      (try simp only [Act.put, List.setIfInBounds_toArray, List.set_cons_zero, List.set_cons_succ])
      refine pop_take 4 (v := ?_) rfl (by kernel_rfl) (by kernel_rfl) (by kernel_rfl) (fun _ _ _ h => h) (by rfl) (by assumption) ?_ ?_
      rotate_left 1
      · (intro W hSw; (try dsimp only at hSw); go_simp; (try with_reducible rfl))
      (try simp only [Act.put, List.setIfInBounds_toArray, List.set_cons_zero, List.set_cons_succ])
      refine pop_take 7 (v := ?_) rfl (by kernel_rfl) (by kernel_rfl) (by kernel_rfl) (fun _ _ _ h => h) (by rfl) (by assumption) ?_ ?_
      rotate_left 1
      · (intro W hSw; (try dsimp only at hSw); go_simp; (try with_reducible rfl))
      (try simp only [Act.put, List.setIfInBounds_toArray, List.set_cons_zero, List.set_cons_succ])
      refine pop_take 8 (v := ?_) rfl (by kernel_rfl) (by kernel_rfl) (by kernel_rfl) (fun _ _ _ h => h) (by rfl) (by assumption) ?_ ?_
      rotate_left 1
      · (intro W hSw; (try dsimp only at hSw); go_simp; (try with_reducible rfl))
      (try simp only [Act.put, List.setIfInBounds_toArray, List.set_cons_zero, List.set_cons_succ])
      refine pop_take 9 (v := ?_) rfl (by kernel_rfl) (by kernel_rfl) (by kernel_rfl) (fun _ _ _ h => h) (by rfl) (by assumption) ?_ ?_
      rotate_left 1
      · (intro W hSw; (try dsimp only at hSw); go_simp; (try with_reducible rfl))
      (try simp only [Act.put, List.setIfInBounds_toArray, List.set_cons_zero, List.set_cons_succ])
      have qd : Grow w2 w2.drew := (by repeat (first | exact Grow.refl _ | assumption | refine Grow.alloc ?_ _ | refine Grow.drew ?_ | refine Grow.drewN ?_ _ | refine Grow.trans ?_ (by assumption) | refine Grow.below ?_ (by assumption) (by first | exact Nat.le_refl _ | omega)))
      refine pop_one 5 (by kernel_rfl) rfl (fun K hK => ?_)
      go_simp
      (go_at_call 95; refine (of_c g (q + 1 + 1) c lo A l _ (hr2.grow qd) (by omega) h1 h2 (own_grow ho2 qd) hlo).mono ?_; rintro e w3 ⟨⟨t, ht, rfl⟩, hr3, b3⟩)
      go_wp2_with fail
      refine hK.out _ _ ?_ (fun hHeld => ?_)
      · trivial
      clear hK K
      (try simp only [Act.put, List.setIfInBounds_toArray, List.set_cons_zero, List.set_cons_succ])
      have htl := hb t ht
      have e1 : (Pl.str s).extract 0 k = Pl.str (s.take k) := by rw [str_ext]; rfl
      have e2 : (Pl.str (s.take k)).size = k := by rw [Pl.str_size, List.length_take]; omega
      have e3 : (Pl.str t).size = t.length := Pl.str_size t
      have hc1 : ¬ (9223372036854775807 < k + t.length) := by omega
      have e4 : Pl.str (s.take k) ++ Pl.str t = Pl.str (s.take k ++ t) := str_cat _ _
      have e5 : (Pl.str (s.take k ++ t)).size = k + t.length := by rw [Pl.str_size, List.length_append, List.length_take]; omega
      refine pop_take 6 (v := ?_) rfl (by kernel_rfl) (by kernel_rfl) (by kernel_rfl) (fun _ _ _ h => h) (by rfl) (by assumption) ?_ ?_
      rotate_left 1
      · (intro W hSw; (try dsimp only at hSw); go_simp; (try with_reducible rfl))
      (try simp only [Act.put, List.setIfInBounds_toArray, List.set_cons_zero, List.set_cons_succ])
      refine pop_one 10 (by kernel_rfl) rfl (fun K hK => ?_)
      go_simp
      (go_at_call 61; refine (pick_c g (q + 1 + 1 + 1) 2 _ hr3 (by omega) (by omega) (by omega)).mono ?_; rintro e w4 ⟨⟨p2, hp2, rfl⟩, hr4, b4⟩)
      go_wp2_with fail
      refine hK.out _ _ ?_ (fun hHeld => ?_)
      · trivial
      clear hK K
      (try simp only [Act.put, List.setIfInBounds_toArray, List.set_cons_zero, List.set_cons_succ])
      have hkp : (k : Int) + (p2 : Int) ≤ (s.length : Int) := by omega
      have hkp0 : (0 : Int) ≤ (k : Int) + (p2 : Int) := by omega
      have hwr : IntKind.i64.wrap ((k : Int) + (p2 : Int)) = (k : Int) + (p2 : Int) := by rw [IntKind.wrap_i64]; omega
      have et : ((k : Int) + (p2 : Int)).toNat = k + p2 := by omega
      have e6 : (Pl.str s).extract (k + p2) s.length = Pl.str (s.drop (k + p2)) := by rw [str_ext, List.take_length]
      have e7 : (Pl.str (s.drop (k + p2))).size = s.length - (k + p2) := by rw [Pl.str_size, List.length_drop]
      have hc2 : ¬ (9223372036854775807 < k + t.length + (s.length - (k + p2))) := by omega
      have e8 : Pl.str (s.take k ++ t) ++ Pl.str (s.drop (k + p2)) = Pl.str (s.take k ++ t ++ s.drop (k + p2)) := str_cat _ _
      refine pop_take 11 (v := ?_) rfl (by kernel_rfl) (by kernel_rfl) (by kernel_rfl) (fun _ _ _ h => h) (by rfl) (by assumption) ?_ ?_
      rotate_left 1
      · (intro W hSw; (try dsimp only at hSw); go_simp; (try with_reducible rfl))
      (try simp only [Act.put, List.setIfInBounds_toArray, List.set_cons_zero, List.set_cons_succ])
      refine pop_take 12 (v := ?_) rfl (by kernel_rfl) (by kernel_rfl) (by kernel_rfl) (fun _ _ _ h => h) (by rfl) (by assumption) ?_ ?_
      rotate_left 1
      · (intro W hSw; (try dsimp only at hSw); go_simp; (try with_reducible rfl))
      (try simp only [Act.put, List.setIfInBounds_toArray, List.set_cons_zero, List.set_cons_succ])
      refine pop_take 13 (v := ?_) rfl (by kernel_rfl) (by kernel_rfl) (by kernel_rfl) (fun _ _ _ h => h) (by rfl) (by assumption) ?_ ?_
      rotate_left 1
      · (intro W hSw; (try dsimp only at hSw); go_simp; (try with_reducible rfl))
      (try simp only [Act.put, List.setIfInBounds_toArray, List.set_cons_zero, List.set_cons_succ])
      refine pop_take 14 (v := ?_) rfl (by kernel_rfl) (by kernel_rfl) (by kernel_rfl) (fun _ _ _ h => h) (by rfl) (by assumption) ?_ ?_
      rotate_left 1
      · (intro W hSw; (try dsimp only at hSw); go_simp; (try with_reducible rfl))
      (try simp only [Act.put, List.setIfInBounds_toArray, List.set_cons_zero, List.set_cons_succ])
      refine wpAnyH_done (by kernel_rfl) ?_ _
      go_wp2_with fail
      go_ret
      exact ⟨⟨s.take k ++ (t ++ s.drop (k + p2)), by simp; omega, rfl⟩, hr4.more (by omega), by_trans (by_trans (by_grow B2 qd) b3) b4⟩

end Go.Proofs.YtifdefkkofngoaaDoor
