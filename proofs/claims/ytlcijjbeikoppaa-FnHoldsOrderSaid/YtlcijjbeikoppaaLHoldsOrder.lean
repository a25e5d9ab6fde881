/- FnHoldsOrder: the order of two assertions that are joined makes no difference to their truth. No conditions. -/
import Derived.Test.YtlcijjbeikoppaaPlainOrd
import Derived.Test.YtlcijjbeikoppaaDrawN
import Derived.Test.YtlcijjbeikoppaaHs
import Derived.Test.YtlcijjbeikoppaaRowAid
namespace Go.Proofs.Ytlcijjbeikoppaa.lawFnHoldsOrder
open Go.ChangeShapes Go.WideShapes Go.ChangeAt Go.RowKit Go.Joins Go.Deep
open Go.ChangeMaps (open_string shut_string)
set_option linter.unusedVariables false
set_option linter.unusedSimpArgs false

theorem pop_skip {P : Program} {md : Region.Mode} {Q : Exit → Act → World → Prop} {S : World → Prop} {os : List Oper} (i : Nat) {oi : Oper} {fuel : Nat} {listed : Array Bool} {a : Act} {w : World} (hi : os[i]? = some oi)
    (hs : Region.noSelect os.toArray = true) (hf : Region.free md os.toArray listed i = true) (hr : (Region.ready md os.toArray listed).contains i = true)
    (hQ : ∀ c a w, Q (.panic c) (a.put oi.dst undef) w → Q (.panic c) a w) (hw : Region.wanted oi (yielded os.toArray a.tmps) = false) (hS : S w)
    (h : wpAnyH P md os.toArray Q S fuel (listed.setIfInBounds i true) (a.put oi.dst undef) w) : wpAnyH P md os.toArray Q S (fuel + 1) listed a w :=
  wpAnyH_take (by rw [List.getElem?_toArray]; exact hi) hs hf hr hQ (.inr ⟨hw, rfl⟩) hS h


set_option maxRecDepth 100000 in
set_option maxHeartbeats 6400000 in
theorem walk (A : Option Addr) (c n : Nat) (B : Option Addr) (d m : Nat) (w : World) (hA : Bytes w A n) (hn : n ≤ 9223372036854775807) (hnc : n ≤ c) (hB : Bytes w B m) (hm : m ≤ 9223372036854775807) (hmd : m ≤ d) :
    Calls Try.prog 6 #[.slice A n c, .slice B m d] w fun e w' => e = .returned (.bool true) ∧ Grow w w' := by
  by_cases hn20 : (1048576 : Int) < (n : Int)
  · go_enter Try.func6, Try.ntmps6
    go_wp2
    go_ret
    exact ⟨rfl, (by repeat (first | exact Grow.refl _ | assumption | refine Grow.alloc ?_ _ | refine Grow.drew ?_ | refine Grow.drewN ?_ _ | refine Grow.trans ?_ (by assumption) | refine Grow.below ?_ (by assumption) (by first | exact Nat.le_refl _ | omega)))⟩
  by_cases hm20 : (1048576 : Int) < (m : Int)
  · go_enter Try.func6, Try.ntmps6
    go_wp2
    go_ret
    exact ⟨rfl, (by repeat (first | exact Grow.refl _ | assumption | refine Grow.alloc ?_ _ | refine Grow.drew ?_ | refine Grow.drewN ?_ _ | refine Grow.trans ?_ (by assumption) | refine Grow.below ?_ (by assumption) (by first | exact Nat.le_refl _ | omega)))⟩
  go_enter Try.func6, Try.ntmps6
  go_wp2_with fail
  refine (DrawHolds_c A n c _ hA hn hnc).mono ?_
  rintro e w1 ⟨A1, B1, c1, d1, v, h, A2, B2, c2, d2, a, rfl, o1, o2, ⟨hv, hh⟩, ⟨haf, haa⟩, g1⟩
  have q : Grow w1 ((w1.alloc (.cells #[.slice A1 v.length c1, .slice B1 h.length d1] 43)).alloc (.cells #[.slice A2 a.f.length c2, .slice B2 a.a.length d2] 30)) := (by repeat (first | exact Grow.refl _ | assumption | refine Grow.alloc ?_ _ | refine Grow.drew ?_ | refine Grow.drewN ?_ _ | refine Grow.trans ?_ (by assumption) | refine Grow.below ?_ (by assumption) (by first | exact Nat.le_refl _ | omega)))
  have y5 := (Box2.new w1 43 (.slice A1 v.length c1) (.slice B1 h.length d1)).grow (show Grow _ ((w1.alloc (.cells #[.slice A1 v.length c1, .slice B1 h.length d1] 43)).alloc (.cells #[.slice A2 a.f.length c2, .slice B2 a.a.length d2] 30)) from Grow.alloc (Grow.refl _) _)
  have y6 := Box2.new (w1.alloc (.cells #[.slice A1 v.length c1, .slice B1 h.length d1] 43)) 30 (.slice A2 a.f.length c2) (.slice B2 a.a.length d2)
  simp only [World.size_alloc] at y6
  have S := o1.st.grow q
  have T := o2.st.grow q
  have G := g1.trans q
  clear o1 o2 g1 q hA hnc
  go_wp2_with fail
  generalize (w1.alloc (.cells #[.slice A1 v.length c1, .slice B1 h.length d1] 43)).alloc (.cells #[.slice A2 a.f.length c2, .slice B2 a.a.length d2] 30) = w2 at *
  refine (DrawHolds_c B m d _ (hB.grow G) hm hmd).mono ?_
  rintro e w3 ⟨A3, B3, c3, d3, v3, h3, A4, B4, c4, d4, b, rfl, o3, o4, ⟨hv3, hh3⟩, ⟨hbf, hba⟩, g3⟩
  have q : Grow w3 ((w3.alloc (.cells #[.slice A3 v3.length c3, .slice B3 h3.length d3] 43)).alloc (.cells #[.slice A4 b.f.length c4, .slice B4 b.a.length d4] 30)) := (by repeat (first | exact Grow.refl _ | assumption | refine Grow.alloc ?_ _ | refine Grow.drew ?_ | refine Grow.drewN ?_ _ | refine Grow.trans ?_ (by assumption) | refine Grow.below ?_ (by assumption) (by first | exact Nat.le_refl _ | omega)))
  have y8 := Box2.new (w3.alloc (.cells #[.slice A3 v3.length c3, .slice B3 h3.length d3] 43)) 30 (.slice A4 b.f.length c4) (.slice B4 b.a.length d4)
  simp only [World.size_alloc] at y8
  have U := o4.st.grow q
  replace S := S.grow (g3.trans q)
  replace T := T.grow (g3.trans q)
  replace y5 := y5.grow (g3.trans q)
  replace y6 := y6.grow (g3.trans q)
  replace G := G.trans (g3.trans q)
  clear o3 o4 g3 q hB hmd
  obtain ⟨p0, p1, _, _⟩ := y6.facts
  obtain ⟨q0, q1, _, _⟩ := y8.facts
  go_wp2_with fail
  clear p0 p1 q0 q1
  generalize (w3.alloc (.cells #[.slice A3 v3.length c3, .slice B3 h3.length d3] 43)).alloc (.cells #[.slice A4 b.f.length c4, .slice B4 b.a.length d4] 30) = w4 at *
  obtain ⟨r1, hr1⟩ : ∃ r, r = Pl.starR a b := ⟨_, rfl⟩
  obtain ⟨r2, hr2⟩ : ∃ r, r = Pl.starR b a := ⟨_, rfl⟩
  have hl1 : r1.1.f.length ≤ 40 ∧ r1.1.a.length ≤ 40 := by have := Pl.starR_len a b; rw [hr1]; omega
  have hl2 : r2.1.f.length ≤ 40 ∧ r2.1.a.length ≤ 40 := by have := Pl.starR_len b a; rw [hr2]; omega
  have L := Pl.star_comm a b
  rw [← hr1, ← hr2] at L
  have C1 := Lib.hid (show ∀ W, Asrs W A2 B2 a → Asrs W A4 B4 b → Calls Try.prog 23 #[asval A2 B2 c2 d2 a, asval A4 B4 c4 d4 b] W (RAs W r1) from fun W k k9 => by rw [hr1]; exact StarAssertions_c A2 B2 A4 B4 c2 d2 c4 d4 a b W k k9 (by omega) (by omega) (by omega) (by omega))
  have C2 := Lib.hid (show ∀ W, Asrs W A4 B4 b → Asrs W A2 B2 a → Calls Try.prog 23 #[asval A4 B4 c4 d4 b, asval A2 B2 c2 d2 a] W (RAs W r2) from fun W k k9 => by rw [hr2]; exact StarAssertions_c A4 B4 A2 B2 c4 d4 c2 d2 b a W k k9 (by omega) (by omega) (by omega) (by omega))
  clear hr1 hr2
  obtain ⟨cv, pb⟩ := r1
  obtain ⟨dv, qb⟩ := r2
  obtain ⟨lb, lj⟩ := L
  obtain rfl : pb = qb := lb
  replace hl1 : cv.f.length ≤ 40 ∧ cv.a.length ≤ 40 := hl1
  replace hl2 : dv.f.length ≤ 40 ∧ dv.a.length ≤ 40 := hl2
  have HJ := Lib.hid (show pb = true → Pl.holdsB ⟨v, h⟩ cv = Pl.holdsB ⟨v, h⟩ dv from fun e => by
    obtain ⟨e1, e2⟩ := lj e
    have e1' : cv = Pl.join a b := e1
    have e2' : dv = Pl.join b a := e2
    rw [e1', e2', Pl.holds_comm])
  clear lj
  refine (C1.out _ T U).mono ?_
  rintro e w5 ⟨A6, B6, c6, d6, rfl, o6, g5⟩
  have q : Grow w5 (w5.alloc (.cells #[.slice A6 cv.f.length c6, .slice B6 cv.a.length d6] 30)) := (by repeat (first | exact Grow.refl _ | assumption | refine Grow.alloc ?_ _ | refine Grow.drew ?_ | refine Grow.drewN ?_ _ | refine Grow.trans ?_ (by assumption) | refine Grow.below ?_ (by assumption) (by first | exact Nat.le_refl _ | omega)))
  have y9 := Box2.new w5 30 (.slice A6 cv.f.length c6) (.slice B6 cv.a.length d6)
  have X := o6.st.grow q
  replace S := S.grow (g5.trans q)
  replace T := T.grow (g5.trans q)
  replace U := U.grow (g5.trans q)
  replace y5 := y5.grow (g5.trans q)
  replace y6 := y6.grow (g5.trans q)
  replace y8 := y8.grow (g5.trans q)
  replace G := G.trans (g5.trans q)
  clear o6 g5 q
  obtain ⟨p0, p1, _, _⟩ := y6.facts
  obtain ⟨q0, q1, _, _⟩ := y8.facts
  go_wp2_with fail
  clear p0 p1 q0 q1
  generalize w5.alloc (.cells #[.slice A6 cv.f.length c6, .slice B6 cv.a.length d6] 30) = w6 at *
  refine (C2.out _ U T).mono ?_
  rintro e w7 ⟨A8, B8, c8, d8, rfl, o8, g7⟩
  have q : Grow w7 (w7.alloc (.cells #[.slice A8 dv.f.length c8, .slice B8 dv.a.length d8] 30)) := (by repeat (first | exact Grow.refl _ | assumption | refine Grow.alloc ?_ _ | refine Grow.drew ?_ | refine Grow.drewN ?_ _ | refine Grow.trans ?_ (by assumption) | refine Grow.below ?_ (by assumption) (by first | exact Nat.le_refl _ | omega)))
  have y11 := Box2.new w7 30 (.slice A8 dv.f.length c8) (.slice B8 dv.a.length d8)
  have Y := o8.st.grow q
  replace S := S.grow (g7.trans q)
  replace T := T.grow (g7.trans q)
  replace X := X.grow (g7.trans q)
  replace y5 := y5.grow (g7.trans q)
  replace y6 := y6.grow (g7.trans q)
  replace y9 := y9.grow (g7.trans q)
  replace G := G.trans (g7.trans q)
  clear o8 g7 q U y8 C1 C2
  go_wp2_with fail
  generalize w7.alloc (.cells #[.slice A8 dv.f.length c8, .slice B8 dv.a.length d8] 30) = w8 at *
  obtain ⟨b1, hb1⟩ : ∃ b1, b1 = Pl.holdsB ⟨v, h⟩ a := ⟨_, rfl⟩
  obtain ⟨b2, hb2⟩ : ∃ b2, b2 = Pl.holdsB ⟨v, h⟩ cv := ⟨_, rfl⟩
  have CH := Lib.hid (show ∀ W, Sts W A1 B1 ⟨v, h⟩ → Asrs W A2 B2 a → Calls Try.prog 24 #[.agg #[.slice A1 v.length c1, .slice B1 h.length d1], .agg #[.slice A2 a.f.length c2, .slice B2 a.a.length d2]] W fun e w' => e = .returned (.bool b1) ∧ Grow W w' from fun W k k9 => by rw [hb1]; exact Holds_c A1 B1 A2 B2 c1 d1 c2 d2 ⟨v, h⟩ a W k k9 (by show v.length ≤ _; omega) (by show h.length ≤ _; omega) (by omega) (by omega))
  have CK := Lib.hid (show ∀ W, Sts W A1 B1 ⟨v, h⟩ → Asrs W A2 B2 a → Calls Try.prog 25 #[.agg #[.slice A1 v.length c1, .slice B1 h.length d1], .agg #[.slice A2 a.f.length c2, .slice B2 a.a.length d2]] W fun e w' => e = .returned (.bool b1) ∧ Grow W w' from fun W k k9 => by rw [hb1]; exact sHolds_c A1 B1 A2 B2 c1 d1 c2 d2 ⟨v, h⟩ a W k k9 (by show v.length ≤ _; omega) (by show h.length ≤ _; omega) (by omega) (by omega))
  have CX := Lib.hid (show ∀ W, Sts W A1 B1 ⟨v, h⟩ → Asrs W A6 B6 cv → Calls Try.prog 24 #[.agg #[.slice A1 v.length c1, .slice B1 h.length d1], .agg #[.slice A6 cv.f.length c6, .slice B6 cv.a.length d6]] W fun e w' => e = .returned (.bool b2) ∧ Grow W w' from fun W k k9 => by rw [hb2]; exact Holds_c A1 B1 A6 B6 c1 d1 c6 d6 ⟨v, h⟩ cv W k k9 (by show v.length ≤ _; omega) (by show h.length ≤ _; omega) (by omega) (by omega))
  have CY := Lib.hid (show pb = true → ∀ W, Sts W A1 B1 ⟨v, h⟩ → Asrs W A8 B8 dv → Calls Try.prog 24 #[.agg #[.slice A1 v.length c1, .slice B1 h.length d1], .agg #[.slice A8 dv.f.length c8, .slice B8 dv.a.length d8]] W fun e w' => e = .returned (.bool b2) ∧ Grow W w' from fun e W k k9 => by rw [hb2, HJ.out e]; exact Holds_c A1 B1 A8 B8 c1 d1 c8 d8 ⟨v, h⟩ dv W k k9 (by show v.length ≤ _; omega) (by show h.length ≤ _; omega) (by omega) (by omega))
  clear hb1 hb2
  obtain ⟨k0, k1, _, _⟩ := y5.facts
  obtain ⟨l0, l1, _, _⟩ := y6.facts
  obtain ⟨m0, m1, _, _⟩ := y9.facts
  obtain ⟨n0, n1, _, _⟩ := y11.facts
  have keep : ∀ {W W' : World} {x0 x1 x2 x3 x4 x5 x6 x7 : Addr} {u0 u1 u2 u3 u4 u5 u6 u7 : Value}, Grow W W' → (W.cell? x0 = some u0 ∧ W.cell? x1 = some u1) ∧ (W.cell? x2 = some u2 ∧ W.cell? x3 = some u3) ∧ (W.cell? x4 = some u4 ∧ W.cell? x5 = some u5) ∧ (W.cell? x6 = some u6 ∧ W.cell? x7 = some u7) ∧ Grow w8 W → (W'.cell? x0 = some u0 ∧ W'.cell? x1 = some u1) ∧ (W'.cell? x2 = some u2 ∧ W'.cell? x3 = some u3) ∧ (W'.cell? x4 = some u4 ∧ W'.cell? x5 = some u5) ∧ (W'.cell? x6 = some u6 ∧ W'.cell? x7 = some u7) ∧ Grow w8 W' := fun g k => ⟨⟨g.cell k.1.1, g.cell k.1.2⟩, ⟨g.cell k.2.1.1, g.cell k.2.1.2⟩, ⟨g.cell k.2.2.1.1, g.cell k.2.2.1.2⟩, ⟨g.cell k.2.2.2.1.1, g.cell k.2.2.2.1.2⟩, k.2.2.2.2.trans g⟩
  cases pb with
  | true =>
    have hgg := G
    refine wp_region_held_drew (S := (fun W => (W.cell? ⟨w1.heap.size, 0, none⟩ = some (.slice A1 v.length c1) ∧ W.cell? ⟨w1.heap.size, 1, none⟩ = some (.slice B1 h.length d1)) ∧ (W.cell? ⟨w1.heap.size + 1, 0, none⟩ = some (.slice A2 a.f.length c2) ∧ W.cell? ⟨w1.heap.size + 1, 1, none⟩ = some (.slice B2 a.a.length d2)) ∧ (W.cell? ⟨w5.heap.size, 0, none⟩ = some (.slice A6 cv.f.length c6) ∧ W.cell? ⟨w5.heap.size, 1, none⟩ = some (.slice B6 cv.a.length d6)) ∧ (W.cell? ⟨w7.heap.size, 0, none⟩ = some (.slice A8 dv.f.length c8) ∧ W.cell? ⟨w7.heap.size, 1, none⟩ = some (.slice B8 dv.a.length d8)) ∧ Grow w8 W)) (by kernel_rfl) ?_ (fun hHeld => ?_)
    · exact ⟨⟨k0, k1⟩, ⟨l0, l1⟩, ⟨m0, m1⟩, ⟨n0, n1⟩, (by repeat (first | exact Grow.refl _ | assumption | refine Grow.alloc ?_ _ | refine Grow.drew ?_ | refine Grow.drewN ?_ _ | refine Grow.trans ?_ (by assumption) | refine Grow.below ?_ (by assumption) (by first | exact Nat.le_refl _ | omega)))⟩
    refine pop_take 0 (v := ?_) rfl (by kernel_rfl) (by kernel_rfl) (by kernel_rfl) (fun _ _ _ h => h) (by rfl) (by assumption) ?_ ?_
    rotate_left 1
    · (intro W hSw; (try dsimp only at hSw); go_simp; (try with_reducible rfl))
    (try simp only [Act.put, List.setIfInBounds_toArray, List.set_cons_zero, List.set_cons_succ])
    refine pop_take 1 (v := ?_) rfl (by kernel_rfl) (by kernel_rfl) (by kernel_rfl) (fun _ _ _ h => h) (by rfl) (by assumption) ?_ ?_
    rotate_left 1
    · (intro W hSw; (try dsimp only at hSw); go_simp; (try with_reducible rfl))
    (try simp only [Act.put, List.setIfInBounds_toArray, List.set_cons_zero, List.set_cons_succ])
    refine pop_take 3 (v := ?_) rfl (by kernel_rfl) (by kernel_rfl) (by kernel_rfl) (fun _ _ _ h => h) (by rfl) (by assumption) ?_ ?_
    rotate_left 1
    · (intro W hSw; (try dsimp only at hSw); go_simp; (try with_reducible rfl))
    (try simp only [Act.put, List.setIfInBounds_toArray, List.set_cons_zero, List.set_cons_succ])
    refine pop_take 4 (v := ?_) rfl (by kernel_rfl) (by kernel_rfl) (by kernel_rfl) (fun _ _ _ h => h) (by rfl) (by assumption) ?_ ?_
    rotate_left 1
    · (intro W hSw; (try dsimp only at hSw); go_simp; (try with_reducible rfl))
    (try simp only [Act.put, List.setIfInBounds_toArray, List.set_cons_zero, List.set_cons_succ])
    refine pop_one 2 (by kernel_rfl) rfl (fun K hK => ?_)
    go_simp
    (go_at_call 24; (with_reducible refine (CH.out _ (S.grow hHeld.2.2.2.2) (T.grow hHeld.2.2.2.2)).mono ?_); rintro e x1 ⟨rfl, g1⟩)
    go_wp2_with fail
    refine hK.out _ _ ?_ (fun hHeld => ?_)
    · exact keep g1 hHeld
    clear hK K
    (try simp only [Act.put, List.setIfInBounds_toArray, List.set_cons_zero, List.set_cons_succ])
    refine pop_one 5 (by kernel_rfl) rfl (fun K hK => ?_)
    go_simp
    (go_at_call 25; (with_reducible refine (CK.out _ (S.grow hHeld.2.2.2.2) (T.grow hHeld.2.2.2.2)).mono ?_); rintro e x2 ⟨rfl, g2⟩)
    go_wp2_with fail
    refine hK.out _ _ ?_ (fun hHeld => ?_)
    · exact keep g2 hHeld
    clear hK K
    (try simp only [Act.put, List.setIfInBounds_toArray, List.set_cons_zero, List.set_cons_succ])
    refine pop_take 6 (v := ?_) rfl (by kernel_rfl) (by kernel_rfl) (by kernel_rfl) (fun _ _ _ h => h) (by rfl) (by assumption) ?_ ?_
    rotate_left 1
    · (intro W hSw; (try dsimp only at hSw); go_simp; (try with_reducible rfl))
    (try simp only [Act.put, List.setIfInBounds_toArray, List.set_cons_zero, List.set_cons_succ])
    refine pop_take 7 (v := ?_) rfl (by kernel_rfl) (by kernel_rfl) (by kernel_rfl) (fun _ _ _ h => h) (by rfl) (by assumption) ?_ ?_
    rotate_left 1
    · (intro W hSw; (try dsimp only at hSw); go_simp; (try with_reducible rfl))
    (try simp only [Act.put, List.setIfInBounds_toArray, List.set_cons_zero, List.set_cons_succ])
    refine pop_take 8 (v := ?_) rfl (by kernel_rfl) (by kernel_rfl) (by kernel_rfl) (fun _ _ _ h => h) (by rfl) (by assumption) ?_ ?_
    rotate_left 1
    · (intro W hSw; (try dsimp only at hSw); go_simp; (try with_reducible rfl))
    (try simp only [Act.put, List.setIfInBounds_toArray, List.set_cons_zero, List.set_cons_succ])
    refine pop_take 9 (v := ?_) rfl (by kernel_rfl) (by kernel_rfl) (by kernel_rfl) (fun _ _ _ h => h) (by rfl) (by assumption) ?_ ?_
    rotate_left 1
    · (intro W hSw; (try dsimp only at hSw); go_simp; (try with_reducible rfl))
    (try simp only [Act.put, List.setIfInBounds_toArray, List.set_cons_zero, List.set_cons_succ])
    refine pop_take 10 (v := ?_) rfl (by kernel_rfl) (by kernel_rfl) (by kernel_rfl) (fun _ _ _ h => h) (by rfl) (by assumption) ?_ ?_
    rotate_left 1
    · (intro W hSw; (try dsimp only at hSw); go_simp; (try with_reducible rfl))
    (try simp only [Act.put, List.setIfInBounds_toArray, List.set_cons_zero, List.set_cons_succ])
    refine pop_take 11 (v := ?_) rfl (by kernel_rfl) (by kernel_rfl) (by kernel_rfl) (fun _ _ _ h => h) (by rfl) (by assumption) ?_ ?_
    rotate_left 1
    · (intro W hSw; (try dsimp only at hSw); go_simp; (try with_reducible rfl))
    (try simp only [Act.put, List.setIfInBounds_toArray, List.set_cons_zero, List.set_cons_succ])
    refine pop_take 12 (v := ?_) rfl (by kernel_rfl) (by kernel_rfl) (by kernel_rfl) (fun _ _ _ h => h) (by rfl) (by assumption) ?_ ?_
    rotate_left 1
    · (intro W hSw; (try dsimp only at hSw); go_simp; (try with_reducible rfl))
    (try simp only [Act.put, List.setIfInBounds_toArray, List.set_cons_zero, List.set_cons_succ])
    refine pop_take 13 (v := ?_) rfl (by kernel_rfl) (by kernel_rfl) (by kernel_rfl) (fun _ _ _ h => h) (by rfl) (by assumption) ?_ ?_
    rotate_left 1
    · (intro W hSw; (try dsimp only at hSw); go_simp; (try with_reducible rfl))
    (try simp only [Act.put, List.setIfInBounds_toArray, List.set_cons_zero, List.set_cons_succ])
    refine pop_take 14 (v := ?_) rfl (by kernel_rfl) (by kernel_rfl) (by kernel_rfl) (fun _ _ _ h => h) (by rfl) (by assumption) ?_ ?_
    rotate_left 1
    · (intro W hSw; (try dsimp only at hSw); go_simp; (try with_reducible rfl))
    (try simp only [Act.put, List.setIfInBounds_toArray, List.set_cons_zero, List.set_cons_succ])
    refine pop_take 15 (v := ?_) rfl (by kernel_rfl) (by kernel_rfl) (by kernel_rfl) (fun _ _ _ h => h) (by rfl) (by assumption) ?_ ?_
    rotate_left 1
    · (intro W hSw; (try dsimp only at hSw); go_simp; (try with_reducible rfl))
    (try simp only [Act.put, List.setIfInBounds_toArray, List.set_cons_zero, List.set_cons_succ])
    refine pop_take 16 (v := ?_) rfl (by kernel_rfl) (by kernel_rfl) (by kernel_rfl) (fun _ _ _ h => h) (by rfl) (by assumption) ?_ ?_
    rotate_left 1
    · (intro W hSw; (try dsimp only at hSw); go_simp; (try with_reducible rfl))
    (try simp only [Act.put, List.setIfInBounds_toArray, List.set_cons_zero, List.set_cons_succ])
    refine pop_take 17 (v := ?_) rfl (by kernel_rfl) (by kernel_rfl) (by kernel_rfl) (fun _ _ _ h => h) (by rfl) (by assumption) ?_ ?_
    rotate_left 1
    · (intro W hSw; (try dsimp only at hSw); go_simp; (try with_reducible rfl))
    (try simp only [Act.put, List.setIfInBounds_toArray, List.set_cons_zero, List.set_cons_succ])
    refine pop_take 19 (v := ?_) rfl (by kernel_rfl) (by kernel_rfl) (by kernel_rfl) (fun _ _ _ h => h) (by rfl) (by assumption) ?_ ?_
    rotate_left 1
    · (intro W hSw; (try dsimp only at hSw); go_simp; (try with_reducible rfl))
    (try simp only [Act.put, List.setIfInBounds_toArray, List.set_cons_zero, List.set_cons_succ])
    refine pop_take 20 (v := ?_) rfl (by kernel_rfl) (by kernel_rfl) (by kernel_rfl) (fun _ _ _ h => h) (by rfl) (by assumption) ?_ ?_
    rotate_left 1
    · (intro W hSw; (try dsimp only at hSw); go_simp; (try with_reducible rfl))
    (try simp only [Act.put, List.setIfInBounds_toArray, List.set_cons_zero, List.set_cons_succ])
    refine pop_one 18 (by kernel_rfl) rfl (fun K hK => ?_)
    go_simp
    (go_at_call 24; (with_reducible refine (CX.out _ (S.grow hHeld.2.2.2.2) (X.grow hHeld.2.2.2.2)).mono ?_); rintro e x3 ⟨rfl, g3⟩)
    go_wp2_with fail
    refine hK.out _ _ ?_ (fun hHeld => ?_)
    · exact keep g3 hHeld
    clear hK K
    (try simp only [Act.put, List.setIfInBounds_toArray, List.set_cons_zero, List.set_cons_succ])
    refine pop_one 21 (by kernel_rfl) rfl (fun K hK => ?_)
    go_simp
    (go_at_call 24; (with_reducible refine (CY.out (by trivial) _ (S.grow hHeld.2.2.2.2) (Y.grow hHeld.2.2.2.2)).mono ?_); rintro e x4 ⟨rfl, g4⟩)
    go_wp2_with fail
    refine hK.out _ _ ?_ (fun hHeld => ?_)
    · exact keep g4 hHeld
    clear hK K
    (try simp only [Act.put, List.setIfInBounds_toArray, List.set_cons_zero, List.set_cons_succ])
    refine pop_take 22 (v := ?_) rfl (by kernel_rfl) (by kernel_rfl) (by kernel_rfl) (fun _ _ _ h => h) (by rfl) (by assumption) ?_ ?_
    rotate_left 1
    · (intro W hSw; (try dsimp only at hSw); go_simp; (try with_reducible rfl))
    (try simp only [Act.put, List.setIfInBounds_toArray, List.set_cons_zero, List.set_cons_succ])
    refine pop_take 23 (v := ?_) rfl (by kernel_rfl) (by kernel_rfl) (by kernel_rfl) (fun _ _ _ h => h) (by rfl) (by assumption) ?_ ?_
    rotate_left 1
    · (intro W hSw; (try dsimp only at hSw); go_simp; (try with_reducible rfl))
    (try simp only [Act.put, List.setIfInBounds_toArray, List.set_cons_zero, List.set_cons_succ])
    refine pop_take 24 (v := ?_) rfl (by kernel_rfl) (by kernel_rfl) (by kernel_rfl) (fun _ _ _ h => h) (by rfl) (by assumption) ?_ ?_
    rotate_left 1
    · (intro W hSw; (try dsimp only at hSw); go_simp; (try with_reducible rfl))
    (try simp only [Act.put, List.setIfInBounds_toArray, List.set_cons_zero, List.set_cons_succ])
    refine pop_take 25 (v := ?_) rfl (by kernel_rfl) (by kernel_rfl) (by kernel_rfl) (fun _ _ _ h => h) (by rfl) (by assumption) ?_ ?_
    rotate_left 1
    · (intro W hSw; (try dsimp only at hSw); go_simp; (try with_reducible rfl))
    (try simp only [Act.put, List.setIfInBounds_toArray, List.set_cons_zero, List.set_cons_succ])
    refine wpAnyH_done (by kernel_rfl) ?_ _
    go_wp2_with fail
    go_ret
    exact ⟨rfl, G.trans hHeld.2.2.2.2⟩
  | false =>
    have hgg := G
    refine wp_region_held_drew (S := (fun W => (W.cell? ⟨w1.heap.size, 0, none⟩ = some (.slice A1 v.length c1) ∧ W.cell? ⟨w1.heap.size, 1, none⟩ = some (.slice B1 h.length d1)) ∧ (W.cell? ⟨w1.heap.size + 1, 0, none⟩ = some (.slice A2 a.f.length c2) ∧ W.cell? ⟨w1.heap.size + 1, 1, none⟩ = some (.slice B2 a.a.length d2)) ∧ (W.cell? ⟨w5.heap.size, 0, none⟩ = some (.slice A6 cv.f.length c6) ∧ W.cell? ⟨w5.heap.size, 1, none⟩ = some (.slice B6 cv.a.length d6)) ∧ (W.cell? ⟨w7.heap.size, 0, none⟩ = some (.slice A8 dv.f.length c8) ∧ W.cell? ⟨w7.heap.size, 1, none⟩ = some (.slice B8 dv.a.length d8)) ∧ Grow w8 W)) (by kernel_rfl) ?_ (fun hHeld => ?_)
    · exact ⟨⟨k0, k1⟩, ⟨l0, l1⟩, ⟨m0, m1⟩, ⟨n0, n1⟩, (by repeat (first | exact Grow.refl _ | assumption | refine Grow.alloc ?_ _ | refine Grow.drew ?_ | refine Grow.drewN ?_ _ | refine Grow.trans ?_ (by assumption) | refine Grow.below ?_ (by assumption) (by first | exact Nat.le_refl _ | omega)))⟩
    refine pop_take 0 (v := ?_) rfl (by kernel_rfl) (by kernel_rfl) (by kernel_rfl) (fun _ _ _ h => h) (by rfl) (by assumption) ?_ ?_
    rotate_left 1
    · (intro W hSw; (try dsimp only at hSw); go_simp; (try with_reducible rfl))
    (try simp only [Act.put, List.setIfInBounds_toArray, List.set_cons_zero, List.set_cons_succ])
    refine pop_take 1 (v := ?_) rfl (by kernel_rfl) (by kernel_rfl) (by kernel_rfl) (fun _ _ _ h => h) (by rfl) (by assumption) ?_ ?_
    rotate_left 1
    · (intro W hSw; (try dsimp only at hSw); go_simp; (try with_reducible rfl))
    (try simp only [Act.put, List.setIfInBounds_toArray, List.set_cons_zero, List.set_cons_succ])
    refine pop_take 3 (v := ?_) rfl (by kernel_rfl) (by kernel_rfl) (by kernel_rfl) (fun _ _ _ h => h) (by rfl) (by assumption) ?_ ?_
    rotate_left 1
    · (intro W hSw; (try dsimp only at hSw); go_simp; (try with_reducible rfl))
    (try simp only [Act.put, List.setIfInBounds_toArray, List.set_cons_zero, List.set_cons_succ])
    refine pop_take 4 (v := ?_) rfl (by kernel_rfl) (by kernel_rfl) (by kernel_rfl) (fun _ _ _ h => h) (by rfl) (by assumption) ?_ ?_
    rotate_left 1
    · (intro W hSw; (try dsimp only at hSw); go_simp; (try with_reducible rfl))
    (try simp only [Act.put, List.setIfInBounds_toArray, List.set_cons_zero, List.set_cons_succ])
    refine pop_one 2 (by kernel_rfl) rfl (fun K hK => ?_)
    go_simp
    (go_at_call 24; (with_reducible refine (CH.out _ (S.grow hHeld.2.2.2.2) (T.grow hHeld.2.2.2.2)).mono ?_); rintro e x1 ⟨rfl, g1⟩)
    go_wp2_with fail
    refine hK.out _ _ ?_ (fun hHeld => ?_)
    · exact keep g1 hHeld
    clear hK K
    (try simp only [Act.put, List.setIfInBounds_toArray, List.set_cons_zero, List.set_cons_succ])
    refine pop_one 5 (by kernel_rfl) rfl (fun K hK => ?_)
    go_simp
    (go_at_call 25; (with_reducible refine (CK.out _ (S.grow hHeld.2.2.2.2) (T.grow hHeld.2.2.2.2)).mono ?_); rintro e x2 ⟨rfl, g2⟩)
    go_wp2_with fail
    refine hK.out _ _ ?_ (fun hHeld => ?_)
    · exact keep g2 hHeld
    clear hK K
    (try simp only [Act.put, List.setIfInBounds_toArray, List.set_cons_zero, List.set_cons_succ])
    refine pop_take 6 (v := ?_) rfl (by kernel_rfl) (by kernel_rfl) (by kernel_rfl) (fun _ _ _ h => h) (by rfl) (by assumption) ?_ ?_
    rotate_left 1
    · (intro W hSw; (try dsimp only at hSw); go_simp; (try with_reducible rfl))
    (try simp only [Act.put, List.setIfInBounds_toArray, List.set_cons_zero, List.set_cons_succ])
    refine pop_take 7 (v := ?_) rfl (by kernel_rfl) (by kernel_rfl) (by kernel_rfl) (fun _ _ _ h => h) (by rfl) (by assumption) ?_ ?_
    rotate_left 1
    · (intro W hSw; (try dsimp only at hSw); go_simp; (try with_reducible rfl))
    (try simp only [Act.put, List.setIfInBounds_toArray, List.set_cons_zero, List.set_cons_succ])
    refine pop_take 8 (v := ?_) rfl (by kernel_rfl) (by kernel_rfl) (by kernel_rfl) (fun _ _ _ h => h) (by rfl) (by assumption) ?_ ?_
    rotate_left 1
    · (intro W hSw; (try dsimp only at hSw); go_simp; (try with_reducible rfl))
    (try simp only [Act.put, List.setIfInBounds_toArray, List.set_cons_zero, List.set_cons_succ])
    refine pop_take 9 (v := ?_) rfl (by kernel_rfl) (by kernel_rfl) (by kernel_rfl) (fun _ _ _ h => h) (by rfl) (by assumption) ?_ ?_
    rotate_left 1
    · (intro W hSw; (try dsimp only at hSw); go_simp; (try with_reducible rfl))
    (try simp only [Act.put, List.setIfInBounds_toArray, List.set_cons_zero, List.set_cons_succ])
    refine pop_take 10 (v := ?_) rfl (by kernel_rfl) (by kernel_rfl) (by kernel_rfl) (fun _ _ _ h => h) (by rfl) (by assumption) ?_ ?_
    rotate_left 1
    · (intro W hSw; (try dsimp only at hSw); go_simp; (try with_reducible rfl))
    (try simp only [Act.put, List.setIfInBounds_toArray, List.set_cons_zero, List.set_cons_succ])
    refine pop_take 11 (v := ?_) rfl (by kernel_rfl) (by kernel_rfl) (by kernel_rfl) (fun _ _ _ h => h) (by rfl) (by assumption) ?_ ?_
    rotate_left 1
    · (intro W hSw; (try dsimp only at hSw); go_simp; (try with_reducible rfl))
    (try simp only [Act.put, List.setIfInBounds_toArray, List.set_cons_zero, List.set_cons_succ])
    refine pop_take 12 (v := ?_) rfl (by kernel_rfl) (by kernel_rfl) (by kernel_rfl) (fun _ _ _ h => h) (by rfl) (by assumption) ?_ ?_
    rotate_left 1
    · (intro W hSw; (try dsimp only at hSw); go_simp; (try with_reducible rfl))
    (try simp only [Act.put, List.setIfInBounds_toArray, List.set_cons_zero, List.set_cons_succ])
    refine pop_take 13 (v := ?_) rfl (by kernel_rfl) (by kernel_rfl) (by kernel_rfl) (fun _ _ _ h => h) (by rfl) (by assumption) ?_ ?_
    rotate_left 1
    · (intro W hSw; (try dsimp only at hSw); go_simp; (try with_reducible rfl))
    (try simp only [Act.put, List.setIfInBounds_toArray, List.set_cons_zero, List.set_cons_succ])
    refine pop_take 14 (v := ?_) rfl (by kernel_rfl) (by kernel_rfl) (by kernel_rfl) (fun _ _ _ h => h) (by rfl) (by assumption) ?_ ?_
    rotate_left 1
    · (intro W hSw; (try dsimp only at hSw); go_simp; (try with_reducible rfl))
    (try simp only [Act.put, List.setIfInBounds_toArray, List.set_cons_zero, List.set_cons_succ])
    refine pop_take 15 (v := ?_) rfl (by kernel_rfl) (by kernel_rfl) (by kernel_rfl) (fun _ _ _ h => h) (by rfl) (by assumption) ?_ ?_
    rotate_left 1
    · (intro W hSw; (try dsimp only at hSw); go_simp; (try with_reducible rfl))
    (try simp only [Act.put, List.setIfInBounds_toArray, List.set_cons_zero, List.set_cons_succ])
    refine pop_skip 16 rfl (by kernel_rfl) (by kernel_rfl) (by kernel_rfl) (fun _ _ _ h => h) (by rfl) (by assumption) ?_
    (try simp only [Act.put, List.setIfInBounds_toArray, List.set_cons_zero, List.set_cons_succ])
    refine pop_skip 17 rfl (by kernel_rfl) (by kernel_rfl) (by kernel_rfl) (fun _ _ _ h => h) (by rfl) (by assumption) ?_
    (try simp only [Act.put, List.setIfInBounds_toArray, List.set_cons_zero, List.set_cons_succ])
    refine pop_skip 18 rfl (by kernel_rfl) (by kernel_rfl) (by kernel_rfl) (fun _ _ _ h => h) (by rfl) (by assumption) ?_
    (try simp only [Act.put, List.setIfInBounds_toArray, List.set_cons_zero, List.set_cons_succ])
    refine pop_skip 19 rfl (by kernel_rfl) (by kernel_rfl) (by kernel_rfl) (fun _ _ _ h => h) (by rfl) (by assumption) ?_
    (try simp only [Act.put, List.setIfInBounds_toArray, List.set_cons_zero, List.set_cons_succ])
    refine pop_skip 20 rfl (by kernel_rfl) (by kernel_rfl) (by kernel_rfl) (fun _ _ _ h => h) (by rfl) (by assumption) ?_
    (try simp only [Act.put, List.setIfInBounds_toArray, List.set_cons_zero, List.set_cons_succ])
    refine pop_skip 21 rfl (by kernel_rfl) (by kernel_rfl) (by kernel_rfl) (fun _ _ _ h => h) (by rfl) (by assumption) ?_
    (try simp only [Act.put, List.setIfInBounds_toArray, List.set_cons_zero, List.set_cons_succ])
    refine pop_skip 22 rfl (by kernel_rfl) (by kernel_rfl) (by kernel_rfl) (fun _ _ _ h => h) (by rfl) (by assumption) ?_
    (try simp only [Act.put, List.setIfInBounds_toArray, List.set_cons_zero, List.set_cons_succ])
    refine pop_take 23 (v := ?_) rfl (by kernel_rfl) (by kernel_rfl) (by kernel_rfl) (fun _ _ _ h => h) (by rfl) (by assumption) ?_ ?_
    rotate_left 1
    · (intro W hSw; (try dsimp only at hSw); go_simp; (try with_reducible rfl))
    (try simp only [Act.put, List.setIfInBounds_toArray, List.set_cons_zero, List.set_cons_succ])
    refine pop_take 24 (v := ?_) rfl (by kernel_rfl) (by kernel_rfl) (by kernel_rfl) (fun _ _ _ h => h) (by rfl) (by assumption) ?_ ?_
    rotate_left 1
    · (intro W hSw; (try dsimp only at hSw); go_simp; (try with_reducible rfl))
    (try simp only [Act.put, List.setIfInBounds_toArray, List.set_cons_zero, List.set_cons_succ])
    refine pop_take 25 (v := ?_) rfl (by kernel_rfl) (by kernel_rfl) (by kernel_rfl) (fun _ _ _ h => h) (by rfl) (by assumption) ?_ ?_
    rotate_left 1
    · (intro W hSw; (try dsimp only at hSw); go_simp; (try with_reducible rfl))
    (try simp only [Act.put, List.setIfInBounds_toArray, List.set_cons_zero, List.set_cons_succ])
    refine wpAnyH_done (by kernel_rfl) ?_ _
    go_wp2_with fail
    go_ret
    exact ⟨rfl, G.trans hHeld.2.2.2.2⟩

set_option maxRecDepth 100000 in
theorem lifted (os : Os) (started : os.Started) (H : Type) (enc : TypeId × Value → H) :
    ReturnsInHanded {} Try.checked os 6 .any (Rows.fnHoldsOrderSpec.pre6 enc Try.prog Try.f6 Rows.fnHoldsOrderRow.domain false) (Rows.fnHoldsOrderSpec.post enc Try.prog Try.f6 false true false false) := by
  refine returnsInHanded_of_change (C := Try.checked) own_knob started (by kernel_rfl) Try.func6
    (ChangeSpec.witness6 (enc := enc) (C := Try.checked) false ⟨#[], #[.slice none 0 0, .slice none 0 0], []⟩ 8 (by kernel_rfl) (by kernel_rfl) (by kernel_rfl) (by kernel_rfl)) ?_
  intro W base args ds gs before hval0 hW hcnd _
  have hval : ∀ (j : Nat) t v, Try.f6.params[j]? = some t → args[j]? = some v → Value.okWide Try.prog W .any base t v := hval0
  have hW' := hW
  obtain ⟨p, q, hA0, hV, rfl, hfz, hnd⟩ := hW
  have hA : DataW.TrodAll enc Try.prog W 0 (fun _ => true) true Try.f6.params.toList args.toList ds p := hA0
  rw [Try.params6] at hA hval
  obtain ⟨v0, vs0, d0, ds0, p0, q0, hargs, rfl, rfl, h0, r0⟩ := trodAll_cons hA
  obtain ⟨v1, vs1, d1, ds1, p1, q1, rfl, rfl, rfl, h1, r1⟩ := trodAll_cons r0
  obtain ⟨rfl, rfl, rfl⟩ := trodAll_nil r1
  obtain rfl : args = #[v0, v1] := by cases args; simp_all
  obtain ⟨rfl, rfl⟩ := trodVars_none hV
  have k0 := h0
  have lt0 : ∀ x ∈ p0, x.block < W.heap.size := by obtain ⟨m, hm⟩ := k0; exact DataW.trod_lt m _ _ _ hm
  obtain ⟨a0, len0, cap0, rfl⟩ := okWide_slice Try.underlying37 (hval 0 37 v0 rfl rfl)
  obtain ⟨hb0, w0, hc0⟩ : len0 ≤ 9223372036854775807 ∧ Bytes W a0 len0 ∧ len0 ≤ cap0 := by
    obtain ⟨fuel, hf⟩ := h0
    exact open_bytesL (by simpa [Value.cells] using hf)
  have k1 := h1
  have lt1 : ∀ x ∈ p1, x.block < W.heap.size := by obtain ⟨m, hm⟩ := k1; exact DataW.trod_lt m _ _ _ hm
  obtain ⟨a1, len1, cap1, rfl⟩ := okWide_slice Try.underlying37 (hval 1 37 v1 rfl rfl)
  obtain ⟨hb1, w1, hc1⟩ : len1 ≤ 9223372036854775807 ∧ Bytes W a1 len1 ∧ len1 ≤ cap1 := by
    obtain ⟨fuel, hf⟩ := h1
    exact open_bytesL (by simpa [Value.cells] using hf)
  clear hA0 hval0
  refine (walk a0 cap0 len0 a1 cap1 len1 W w0 hb0 hc0 w1 hb1 hc1).mono fun e W' ⟨he, bel⟩ => ?_
  subst he
  exact ⟨_, rfl, _, _, _, [], _, [], hW', trodAll_mk1 (shut_bool Try.underlying4 _), (trodAll_cons_mk (Below.trod laid_out (by kernel_rfl) (of_decide_eq_true (by kernel_rfl)) k0 bel lt0) (trodAll_cons_mk (Below.trod laid_out (by kernel_rfl) (of_decide_eq_true (by kernel_rfl)) k1 bel lt1) trodAll_mk0)), rfl, bel.frame _, fun h => by cases h⟩

theorem over : Rows.fnHoldsOrderRow.holds Try.pinned (OpenSpec.ofChange Rows.fnHoldsOrderSpec) :=
  OpenClaim.holds_of_wide 6 Try.f6 rfl rfl rfl rfl rfl rfl rfl ⟨rfl, rfl, rfl, rfl, rfl⟩ rfl rfl rfl rfl rfl (by kernel_rfl) Try.func6 (by kernel_rfl)
    (of_decide_eq_true (by kernel_rfl)) (by unfold Func.isWrapper; first | (rw [if_pos (by decide +kernel)]; kernel_rfl) | (rw [if_neg (by decide +kernel)]; exact ⟨rfl, rfl⟩))
    (fun os started H enc _ => lifted os started H enc)

/-- The statement. -/
theorem proved : Rows.FnHoldsOrderSaid := over
#print axioms proved

end Go.Proofs.Ytlcijjbeikoppaa.lawFnHoldsOrder
