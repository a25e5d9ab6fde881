/- FnStateText: formatting and parsing states are inverse. No conditions. -/
import Derived.Test.YtifdefkkofngoaaDoorDrawTs
import Derived.Test.YtifdefkkofngoaaDoorQpA
import Derived.Test.YtifdefkkofngoaaDoorQstA
import Derived.Test.YtifdefkkofngoaaDoorPlainAll
import Derived.Test.YtifdefkkofngoaaDoorRowLL
namespace Go.Proofs.YtifdefkkofngoaaDoor.lawFnStateText
open Go.ChangeShapes Go.WideShapes Go.ChangeAt Go.RowKit Go.Joins Go.Deep
open Go.ChangeMaps (open_string shut_string)
set_option linter.unusedVariables false
set_option linter.unusedSimpArgs false

theorem pop_skip {P : Program} {md : Region.Mode} {Q : Exit → Act → World → Prop} {S : World → Prop} {os : List Oper} (i : Nat) {oi : Oper} {fuel : Nat} {listed : Array Bool} {a : Act} {w : World} (hi : os[i]? = some oi)
    (hs : Region.noSelect os.toArray = true) (hf : Region.free md os.toArray listed i = true) (hr : (Region.ready md os.toArray listed).contains i = true)
    (hQ : ∀ c a w, Q (.panic c) (a.put oi.dst undef) w → Q (.panic c) a w) (hw : Region.wanted oi (yielded os.toArray a.tmps) = false) (hS : S w)
    (h : wpAnyH P md os.toArray Q S fuel (listed.setIfInBounds i true) (a.put oi.dst undef) w) : wpAnyH P md os.toArray Q S (fuel + 1) listed a w :=
  wpAnyH_take (by rw [List.getElem?_toArray]; exact hi) hs hf hr hQ (.inr ⟨hw, rfl⟩) hS h


set_option maxRecDepth 100000 in
set_option maxHeartbeats 12800000 in
theorem walk (A : Option Addr) (c n : Nat) (B : Option Addr) (d m : Nat) (w : World) (hA : Bytes w A n) (hn : n ≤ 9223372036854775807) (hnc : n ≤ c) (hB : Bytes w B m) (hm : m ≤ 9223372036854775807) (hmd : m ≤ d) (hT : TabN w) (hM : MaxL w) :
    Calls Tryd.prog 5 #[.slice A n c, .slice B m d] w fun e w' => e = .returned (.bool true) ∧ Grow w w' := by
  by_cases hn20 : (1048576 : Int) < (n : Int)
  · go_enter Tryd.func5, Tryd.ntmps5
    go_wp2
    go_ret
    exact ⟨rfl, (by repeat (first | exact Grow.refl _ | assumption | refine Grow.alloc ?_ _ | refine Grow.drew ?_ | refine Grow.drewN ?_ _ | refine Grow.trans ?_ (by assumption) | refine Grow.below ?_ (by assumption) (by first | exact Nat.le_refl _ | omega)))⟩
  by_cases hm20 : (1048576 : Int) < (m : Int)
  · go_enter Tryd.func5, Tryd.ntmps5
    go_wp2
    go_ret
    exact ⟨rfl, (by repeat (first | exact Grow.refl _ | assumption | refine Grow.alloc ?_ _ | refine Grow.drew ?_ | refine Grow.drewN ?_ _ | refine Grow.trans ?_ (by assumption) | refine Grow.below ?_ (by assumption) (by first | exact Nat.le_refl _ | omega)))⟩
  go_enter Tryd.func5, Tryd.ntmps5
  go_wp2_with fail
  refine (DrawFormatState_c A n c _ hA hn hnc).mono ?_
  rintro e w1 ⟨A1, B1, c1, d1, sf, sa, rfl, o1, ⟨hs1, hs2⟩, g1⟩
  replace hs1 : sf.length ≤ 100 := Nat.le_trans hs1 (by omega)
  replace hs2 : sa.length ≤ 100 := Nat.le_trans hs2 (by omega)
  obtain ⟨s, hs⟩ : ∃ s, s = Pl.fmtS ⟨sf, sa⟩ := ⟨_, rfl⟩
  have hsl : s.length ≤ 250 := by rw [hs]; exact Nat.le_trans (Pl.fmtS_len _) (by omega)
  obtain ⟨vb, hvb⟩ : ∃ b, b = Pl.stv ⟨sf, sa⟩ := ⟨_, rfl⟩
  obtain ⟨⟨⟨uf, ua⟩, ub⟩, hu⟩ : ∃ r, r = Pl.pS s := ⟨_, rfl⟩
  have L := Pl.fmt_parseS ⟨sf, sa⟩
  have hlen := Pl.pS_lens s
  rw [← hs, ← hu, ← hvb] at L
  rw [← hu] at hlen
  have hu1 : uf.length ≤ 12 := Nat.le_trans hlen.1 (by omega)
  have hu2 : ua.length ≤ 12 := Nat.le_trans hlen.2 (by omega)
  obtain ⟨L1, L2⟩ := L
  replace L1 : ub = vb := L1
  replace L2 : vb = true → uf = sf ∧ ua = sa := fun h => by have := L2 h; injection this with h1 h2; exact ⟨h1, h2⟩
  have CF := Lib.hid (show ∀ W, Sts W A1 B1 ⟨sf, sa⟩ → TabN W → Calls Tryd.prog 12 #[.agg #[.slice A1 sf.length c1, .slice B1 sa.length d1]] W fun e w' => e = .returned (.string (Pl.str s)) ∧ Grow W w' from fun W k t => by rw [hs]; exact FormatState_c A1 B1 c1 d1 ⟨sf, sa⟩ W k (by show sf.length ≤ _; omega) (by show sa.length ≤ _; omega) t)
  have CG := Lib.hid (show ∀ W, Sts W A1 B1 ⟨sf, sa⟩ → Calls Tryd.prog 10 #[.agg #[.slice A1 sf.length c1, .slice B1 sa.length d1]] W fun e w' => e = .returned (.string (Pl.str s)) ∧ Grow W w' from fun W k => by rw [hs]; exact sFormatState_c A1 B1 c1 d1 ⟨sf, sa⟩ W k (by show sf.length ≤ _; omega) (by show sa.length ≤ _; omega))
  have CV := Lib.hid (show ∀ W, Sts W A1 B1 ⟨sf, sa⟩ → Calls Tryd.prog 19 #[.agg #[.slice A1 sf.length c1, .slice B1 sa.length d1]] W fun e w' => e = .returned (.bool vb) ∧ Grow W w' from fun W k => by rw [hvb]; exact StateValid_c A1 B1 c1 d1 ⟨sf, sa⟩ W k (by show sf.length ≤ _; omega) (by show sa.length ≤ _; omega))
  have CW := Lib.hid (show ∀ W, Sts W A1 B1 ⟨sf, sa⟩ → Calls Tryd.prog 20 #[.agg #[.slice A1 sf.length c1, .slice B1 sa.length d1]] W fun e w' => e = .returned (.bool vb) ∧ Grow W w' from fun W k => by rw [hvb]; exact sStateValid_c A1 B1 c1 d1 ⟨sf, sa⟩ W k (by show sf.length ≤ _; omega) (by show sa.length ≤ _; omega))
  have CP := Lib.hid (show ∀ W, TabN W → MaxL W → Calls Tryd.prog 15 #[.string (Pl.str s)] W (RSt W (⟨uf, ua⟩, vb)) from fun W k k' => by rw [← L1, hu]; exact ParseState_c s W (by omega) k k')
  clear hs hvb hu L1 ub hlen
  have y5 := Box2.new w1 27 (.slice A1 sf.length c1) (.slice B1 sa.length d1)
  have q : Grow w1 (w1.alloc (.cells #[.slice A1 sf.length c1, .slice B1 sa.length d1] 27)) := (by repeat (first | exact Grow.refl _ | assumption | refine Grow.alloc ?_ _ | refine Grow.drew ?_ | refine Grow.drewN ?_ _ | refine Grow.trans ?_ (by assumption) | refine Grow.below ?_ (by assumption) (by first | exact Nat.le_refl _ | omega)))
  have S := o1.st.grow q
  have G := g1.trans q
  clear g1 q o1
  obtain ⟨p0, p1, _, _⟩ := y5.facts
  go_wp2_with fail
  generalize w1.alloc (.cells #[.slice A1 sf.length c1, .slice B1 sa.length d1] 27) = w2 at *
  refine (CF.out _ S (hT.grow G)).mono ?_
  rintro e w3 ⟨rfl, g3⟩
  replace y5 := y5.grow g3
  replace S := S.grow g3
  replace G := G.trans g3
  clear g3 p0 p1 CF
  go_wp2_with fail
  refine (CP.out _ (hT.grow G) (hM.grow G)).mono ?_
  rintro e w4 ⟨A7, B7, c7, d7, rfl, o7, g4⟩
  have y7 := Box2.new w4 27 (.slice A7 uf.length c7) (.slice B7 ua.length d7)
  have q : Grow w4 (w4.alloc (.cells #[.slice A7 uf.length c7, .slice B7 ua.length d7] 27)) := (by repeat (first | exact Grow.refl _ | assumption | refine Grow.alloc ?_ _ | refine Grow.drew ?_ | refine Grow.drewN ?_ _ | refine Grow.trans ?_ (by assumption) | refine Grow.below ?_ (by assumption) (by first | exact Nat.le_refl _ | omega)))
  have U := o7.st.grow q
  replace y5 := y5.grow (g4.trans q)
  replace S := S.grow (g4.trans q)
  replace G := (G.trans g4).trans q
  clear g4 q CP o7
  have hst : ((Pl.str s).toList == (Pl.str s).toList) = true := str_yes rfl
  go_wp2_with fail
  generalize w4.alloc (.cells #[.slice A7 uf.length c7, .slice B7 ua.length d7] 27) = w5 at *
  obtain ⟨p0, p1, _, _⟩ := y5.facts
  obtain ⟨q0, q1, _, _⟩ := y7.facts
  have keep : ∀ {W W' : World} {x0 x1 x3 x4 : Addr} {u0 u1 u3 u4 : Value}, Grow W W' → (W.cell? x0 = some u0 ∧ W.cell? x1 = some u1) ∧ (W.cell? x3 = some u3 ∧ W.cell? x4 = some u4) ∧ Grow w5 W → (W'.cell? x0 = some u0 ∧ W'.cell? x1 = some u1) ∧ (W'.cell? x3 = some u3 ∧ W'.cell? x4 = some u4) ∧ Grow w5 W' := fun g k => ⟨⟨g.cell k.1.1, g.cell k.1.2⟩, ⟨g.cell k.2.1.1, g.cell k.2.1.2⟩, k.2.2.trans g⟩
  refine wp_region_held_drew (S := (fun W => (W.cell? ⟨w1.heap.size, 0, none⟩ = some (.slice A1 sf.length c1) ∧ W.cell? ⟨w1.heap.size, 1, none⟩ = some (.slice B1 sa.length d1)) ∧ (W.cell? ⟨w4.heap.size, 0, none⟩ = some (.slice A7 uf.length c7) ∧ W.cell? ⟨w4.heap.size, 1, none⟩ = some (.slice B7 ua.length d7)) ∧ Grow w5 W)) (by kernel_rfl) ?_ (fun hHeld => ?_)
  · exact ⟨⟨p0, p1⟩, ⟨q0, q1⟩, (by repeat (first | exact Grow.refl _ | assumption | refine Grow.alloc ?_ _ | refine Grow.drew ?_ | refine Grow.drewN ?_ _ | refine Grow.trans ?_ (by assumption) | refine Grow.below ?_ (by assumption) (by first | exact Nat.le_refl _ | omega)))⟩
  refine pop_take 0 (v := ?_) rfl (by kernel_rfl) (by kernel_rfl) (by kernel_rfl) (fun _ _ _ h => h) (by rfl) (by assumption) ?_ ?_
  rotate_left 1
  · (intro W hSw; (try dsimp only at hSw); go_simp; (try with_reducible rfl))
  (try simp only [Act.put, List.setIfInBounds_toArray, List.set_cons_zero, List.set_cons_succ])
  refine pop_take 1 (v := ?_) rfl (by kernel_rfl) (by kernel_rfl) (by kernel_rfl) (fun _ _ _ h => h) (by rfl) (by assumption) ?_ ?_
  rotate_left 1
  · (intro W hSw; (try dsimp only at hSw); go_simp; (try with_reducible rfl))
  (try simp only [Act.put, List.setIfInBounds_toArray, List.set_cons_zero, List.set_cons_succ])
  refine pop_one 2 (by kernel_rfl) rfl (fun K hK => ?_)
  go_simp
  (go_at_call 10; (with_reducible refine (CG.out _ (S.grow hHeld.2.2)).mono ?_); rintro e x1 ⟨rfl, g1⟩)
  go_wp2_with fail
  refine hK.out _ _ ?_ (fun hHeld => ?_)
  · exact keep g1 hHeld
  clear hK K
  (try simp only [Act.put, List.setIfInBounds_toArray, List.set_cons_zero, List.set_cons_succ])
  refine pop_take 3 (v := ?_) rfl (by kernel_rfl) (by kernel_rfl) (by kernel_rfl) (fun _ _ _ h => h) (by rfl) (by assumption) ?_ ?_
  rotate_left 1
  · (intro W hSw; (try dsimp only at hSw); go_simp; (try with_reducible rfl))
  (try simp only [Act.put, List.setIfInBounds_toArray, List.set_cons_zero, List.set_cons_succ])
  refine pop_take 4 (v := ?_) rfl (by kernel_rfl) (by kernel_rfl) (by kernel_rfl) (fun _ _ _ h => h) (by rfl) (by assumption) ?_ ?_
  rotate_left 1
  · (intro W hSw; (try dsimp only at hSw); go_simp; (try with_reducible rfl))
  (try simp only [Act.put, List.setIfInBounds_toArray, List.set_cons_zero, List.set_cons_succ])
  refine pop_take 5 (v := ?_) rfl (by kernel_rfl) (by kernel_rfl) (by kernel_rfl) (fun _ _ _ h => h) (by rfl) (by assumption) ?_ ?_
  rotate_left 1
  · (intro W hSw; (try dsimp only at hSw); go_simp; (try with_reducible rfl))
  (try simp only [Act.put, List.setIfInBounds_toArray, List.set_cons_zero, List.set_cons_succ])
  refine pop_take 7 (v := ?_) rfl (by kernel_rfl) (by kernel_rfl) (by kernel_rfl) (fun _ _ _ h => h) (by rfl) (by assumption) ?_ ?_
  rotate_left 1
  · (intro W hSw; (try dsimp only at hSw); go_simp; (try with_reducible rfl))
  (try simp only [Act.put, List.setIfInBounds_toArray, List.set_cons_zero, List.set_cons_succ])
  refine pop_one 6 (by kernel_rfl) rfl (fun K hK => ?_)
  go_simp
  (go_at_call 19; (with_reducible refine (CV.out _ (S.grow hHeld.2.2)).mono ?_); rintro e x2 ⟨rfl, g2⟩)
  go_wp2_with fail
  refine hK.out _ _ ?_ (fun hHeld => ?_)
  · exact keep g2 hHeld
  clear hK K
  (try simp only [Act.put, List.setIfInBounds_toArray, List.set_cons_zero, List.set_cons_succ])
  refine pop_one 8 (by kernel_rfl) rfl (fun K hK => ?_)
  go_simp
  (go_at_call 20; (with_reducible refine (CW.out _ (S.grow hHeld.2.2)).mono ?_); rintro e x3 ⟨rfl, g3⟩)
  go_wp2_with fail
  refine hK.out _ _ ?_ (fun hHeld => ?_)
  · exact keep g3 hHeld
  clear hK K
  (try simp only [Act.put, List.setIfInBounds_toArray, List.set_cons_zero, List.set_cons_succ])
  refine pop_take 9 (v := ?_) rfl (by kernel_rfl) (by kernel_rfl) (by kernel_rfl) (fun _ _ _ h => h) (by rfl) (by assumption) ?_ ?_
  rotate_left 1
  · (intro W hSw; (try dsimp only at hSw); go_simp; (try with_reducible rfl))
  (try simp only [Act.put, List.setIfInBounds_toArray, List.set_cons_zero, List.set_cons_succ])
  refine pop_take 10 (v := ?_) rfl (by kernel_rfl) (by kernel_rfl) (by kernel_rfl) (fun _ _ _ h => h) (by rfl) (by assumption) ?_ ?_
  rotate_left 1
  · (intro W hSw; (try dsimp only at hSw); go_simp; (try with_reducible rfl))
  (try simp only [Act.put, List.setIfInBounds_toArray, List.set_cons_zero, List.set_cons_succ])
  refine pop_take 11 (v := ?_) rfl (by kernel_rfl) (by kernel_rfl) (by kernel_rfl) (fun _ _ _ h => h) (by rfl) (by assumption) ?_ ?_
  rotate_left 1
  · (intro W hSw; (try dsimp only at hSw); go_simp; (try with_reducible rfl))
  (try simp only [Act.put, List.setIfInBounds_toArray, List.set_cons_zero, List.set_cons_succ])
  refine pop_take 12 (v := ?_) rfl (by kernel_rfl) (by kernel_rfl) (by kernel_rfl) (fun _ _ _ h => h) (by rfl) (by assumption) ?_ ?_
  rotate_left 1
  · (intro W hSw; (try dsimp only at hSw); go_simp; (try with_reducible rfl))
  (try simp only [Act.put, List.setIfInBounds_toArray, List.set_cons_zero, List.set_cons_succ])
  refine pop_take 13 (v := ?_) rfl (by kernel_rfl) (by kernel_rfl) (by kernel_rfl) (fun _ _ _ h => h) (by rfl) (by assumption) ?_ ?_
  rotate_left 1
  · (intro W hSw; (try dsimp only at hSw); go_simp; (try with_reducible rfl))
  (try simp only [Act.put, List.setIfInBounds_toArray, List.set_cons_zero, List.set_cons_succ])
  refine pop_one 14 (by kernel_rfl) rfl (fun K hK => ?_)
  go_simp
  (go_at_call 20; (with_reducible refine (CW.out _ (S.grow hHeld.2.2)).mono ?_); rintro e x4 ⟨rfl, g4⟩)
  go_wp2_with fail
  refine hK.out _ _ ?_ (fun hHeld => ?_)
  · exact keep g4 hHeld
  clear hK K
  (try simp only [Act.put, List.setIfInBounds_toArray, List.set_cons_zero, List.set_cons_succ])
  refine pop_take 15 (v := ?_) rfl (by kernel_rfl) (by kernel_rfl) (by kernel_rfl) (fun _ _ _ h => h) (by rfl) (by assumption) ?_ ?_
  rotate_left 1
  · (intro W hSw; (try dsimp only at hSw); go_simp; (try with_reducible rfl))
  (try simp only [Act.put, List.setIfInBounds_toArray, List.set_cons_zero, List.set_cons_succ])
  refine pop_take 16 (v := ?_) rfl (by kernel_rfl) (by kernel_rfl) (by kernel_rfl) (fun _ _ _ h => h) (by rfl) (by assumption) ?_ ?_
  rotate_left 1
  · (intro W hSw; (try dsimp only at hSw); go_simp; (try with_reducible rfl))
  (try simp only [Act.put, List.setIfInBounds_toArray, List.set_cons_zero, List.set_cons_succ])
  refine pop_take 17 (v := ?_) rfl (by kernel_rfl) (by kernel_rfl) (by kernel_rfl) (fun _ _ _ h => h) (by rfl) (by assumption) ?_ ?_
  rotate_left 1
  · (intro W hSw; (try dsimp only at hSw); go_simp; (try with_reducible rfl))
  (try simp only [Act.put, List.setIfInBounds_toArray, List.set_cons_zero, List.set_cons_succ])
  refine pop_take 18 (v := ?_) rfl (by kernel_rfl) (by kernel_rfl) (by kernel_rfl) (fun _ _ _ h => h) (by rfl) (by assumption) ?_ ?_
  rotate_left 1
  · (intro W hSw; (try dsimp only at hSw); go_simp; (try with_reducible rfl))
  (try simp only [Act.put, List.setIfInBounds_toArray, List.set_cons_zero, List.set_cons_succ])
  refine pop_take 19 (v := ?_) rfl (by kernel_rfl) (by kernel_rfl) (by kernel_rfl) (fun _ _ _ h => h) (by rfl) (by assumption) ?_ ?_
  rotate_left 1
  · (intro W hSw; (try dsimp only at hSw); go_simp; (try with_reducible rfl))
  (try simp only [Act.put, List.setIfInBounds_toArray, List.set_cons_zero, List.set_cons_succ])
  cases vb with
  | true =>
    obtain ⟨rfl, rfl⟩ := L2 rfl
    have CE := Lib.hid (show ∀ W, Sts W A7 B7 ⟨uf, ua⟩ → Sts W A1 B1 ⟨uf, ua⟩ → Calls Tryd.prog 21 #[.agg #[.slice A7 uf.length c7, .slice B7 ua.length d7], .agg #[.slice A1 uf.length c1, .slice B1 ua.length d1]] W fun e w' => e = .returned (.bool true) ∧ Grow W w' from fun W k k' => by
      have := StateSame_c A7 B7 A1 B1 c7 d7 c1 d1 ⟨uf, ua⟩ ⟨uf, ua⟩ W k k' (by show uf.length ≤ _; omega) (by show ua.length ≤ _; omega) (by show uf.length ≤ _; omega) (by show ua.length ≤ _; omega)
      rw [decide_eq_true rfl] at this
      exact this)
    refine pop_take 20 (v := ?_) rfl (by kernel_rfl) (by kernel_rfl) (by kernel_rfl) (fun _ _ _ h => h) (by rfl) (by assumption) ?_ ?_
    rotate_left 1
    · (intro W hSw; (try dsimp only at hSw); go_simp; (try with_reducible rfl))
    (try simp only [Act.put, List.setIfInBounds_toArray, List.set_cons_zero, List.set_cons_succ])
    refine pop_take 21 (v := ?_) rfl (by kernel_rfl) (by kernel_rfl) (by kernel_rfl) (fun _ _ _ h => h) (by rfl) (by assumption) ?_ ?_
    rotate_left 1
    · (intro W hSw; (try dsimp only at hSw); go_simp; (try with_reducible rfl))
    (try simp only [Act.put, List.setIfInBounds_toArray, List.set_cons_zero, List.set_cons_succ])
    refine pop_one 22 (by kernel_rfl) rfl (fun K hK => ?_)
    go_simp
    (go_at_call 21; (with_reducible refine (CE.out _ (U.grow hHeld.2.2) (S.grow hHeld.2.2)).mono ?_); rintro e x5 ⟨rfl, g5⟩)
    go_wp2_with fail
    refine hK.out _ _ ?_ (fun hHeld => ?_)
    · exact keep g5 hHeld
    clear hK K
    (try simp only [Act.put, List.setIfInBounds_toArray, List.set_cons_zero, List.set_cons_succ])
    refine pop_take 23 (v := ?_) rfl (by kernel_rfl) (by kernel_rfl) (by kernel_rfl) (fun _ _ _ h => h) (by rfl) (by assumption) ?_ ?_
    rotate_left 1
    · (intro W hSw; (try dsimp only at hSw); go_simp; (try with_reducible rfl))
    (try simp only [Act.put, List.setIfInBounds_toArray, List.set_cons_zero, List.set_cons_succ])
    refine pop_take 24 (v := ?_) rfl (by kernel_rfl) (by kernel_rfl) (by kernel_rfl) (fun _ _ _ h => h) (by rfl) (by assumption) ?_ ?_
    rotate_left 1
    · (intro W hSw; (try dsimp only at hSw); go_simp; (try with_reducible rfl))
    (try simp only [Act.put, List.setIfInBounds_toArray, List.set_cons_zero, List.set_cons_succ])
    refine pop_take 25 (v := ?_) rfl (by kernel_rfl) (by kernel_rfl) (by kernel_rfl) (fun _ _ _ h => h) (by rfl) (by assumption) ?_ ?_
    rotate_left 1
    · (intro W hSw; (try dsimp only at hSw); go_simp; (try with_reducible rfl))
    (try simp only [Act.put, List.setIfInBounds_toArray, List.set_cons_zero, List.set_cons_succ])
    refine wpAnyH_done (by kernel_rfl) ?_ _
    replace G := G.trans hHeld.2.2
    clear hHeld y5 y7 p0 p1 q0 q1 keep CG CV CW CE S U
    go_wp2_with fail
    refine (DrawParseState_c B m d _ (hB.grow G) hm hmd).mono ?_
    rintro e v1 ⟨⟨t, ht, rfl⟩, g1⟩
    obtain ⟨⟨⟨hf, ha⟩, b⟩, hr⟩ : ∃ r, r = Pl.pS t := ⟨_, rfl⟩
    have hlen := Pl.pS_lens t
    rw [← hr] at hlen
    have hl1 : hf.length ≤ 12 := Nat.le_trans hlen.1 (by omega)
    have hl2 : ha.length ≤ 12 := Nat.le_trans hlen.2 (by omega)
    have CI := Lib.hid (show ∀ W, TabN W → MaxL W → Calls Tryd.prog 15 #[.string (Pl.str t)] W (RSt W (⟨hf, ha⟩, b)) from fun W k k' => by rw [hr]; exact ParseState_c t W (by omega) k k')
    have CS := Lib.hid (show ∀ W, Calls Tryd.prog 14 #[.string (Pl.str t)] W (RSt W (⟨hf, ha⟩, b)) from fun W => by rw [hr]; exact sParseState_c t W (by omega))
    have CF := Lib.hid (show b = true → ∀ A c B d W, Sts W A B ⟨hf, ha⟩ → TabN W → Calls Tryd.prog 12 #[.agg #[.slice A hf.length c, .slice B ha.length d]] W fun e w' => e = .returned (.string (Pl.str t)) ∧ Grow W w' from fun hb A c B d W k k' => by
      have := FormatState_c A B c d ⟨hf, ha⟩ W k (by show hf.length ≤ _; omega) (by show ha.length ≤ _; omega) k'
      rw [Pl.parse_fmtS (show Pl.pS t = (⟨hf, ha⟩, true) by rw [← hr, hb])] at this
      exact this)
    have CE := Lib.hid (show ∀ A c B d A' c' B' d' W, Sts W A B ⟨hf, ha⟩ → Sts W A' B' ⟨hf, ha⟩ → Calls Tryd.prog 21 #[.agg #[.slice A hf.length c, .slice B ha.length d], .agg #[.slice A' hf.length c', .slice B' ha.length d']] W fun e w' => e = .returned (.bool true) ∧ Grow W w' from fun A c B d A' c' B' d' W k k' => by
      have := StateSame_c A B A' B' c d c' d' ⟨hf, ha⟩ ⟨hf, ha⟩ W k k' (by show hf.length ≤ _; omega) (by show ha.length ≤ _; omega) (by show hf.length ≤ _; omega) (by show ha.length ≤ _; omega)
      rw [decide_eq_true rfl] at this
      exact this)
    clear hr hlen
    replace G := G.trans g1
    go_wp2_with fail
    refine (CI.out _ (hT.grow G) (hM.grow G)).mono ?_
    rintro e v2 ⟨A8, B8, c8, d8, rfl, o8, g2⟩
    have y10 := Box2.new v2 27 (.slice A8 hf.length c8) (.slice B8 ha.length d8)
    have q : Grow v2 (v2.alloc (.cells #[.slice A8 hf.length c8, .slice B8 ha.length d8] 27)) := (by repeat (first | exact Grow.refl _ | assumption | refine Grow.alloc ?_ _ | refine Grow.drew ?_ | refine Grow.drewN ?_ _ | refine Grow.trans ?_ (by assumption) | refine Grow.below ?_ (by assumption) (by first | exact Nat.le_refl _ | omega)))
    have S8 := o8.st.grow q
    replace G := (G.trans g2).trans q
    clear g1 g2 q o8
    go_wp2_with fail
    generalize v2.alloc (.cells #[.slice A8 hf.length c8, .slice B8 ha.length d8] 27) = v3 at *
    refine (CS.out _).mono ?_
    rintro e v4 ⟨A9, B9, c9, d9, rfl, o9, g4⟩
    have y12 := Box2.new v4 27 (.slice A9 hf.length c9) (.slice B9 ha.length d9)
    have q : Grow v4 (v4.alloc (.cells #[.slice A9 hf.length c9, .slice B9 ha.length d9] 27)) := (by repeat (first | exact Grow.refl _ | assumption | refine Grow.alloc ?_ _ | refine Grow.drew ?_ | refine Grow.drewN ?_ _ | refine Grow.trans ?_ (by assumption) | refine Grow.below ?_ (by assumption) (by first | exact Nat.le_refl _ | omega)))
    have S9 := o9.st.grow q
    replace S8 := S8.grow (g4.trans q)
    replace y10 := y10.grow (g4.trans q)
    replace G := (G.trans g4).trans q
    clear g4 q o9
    obtain ⟨r0, r1, _, _⟩ := y10.facts
    obtain ⟨s0, s1, _, _⟩ := y12.facts
    have hst : ((Pl.str t).toList == (Pl.str t).toList) = true := str_yes rfl
    cases b with
    | true =>
      go_wp2_with fail
      refine (CE.out A8 c8 B8 d8 A9 c9 B9 d9 _ S8 S9).mono ?_
      rintro e v6 ⟨rfl, g6⟩
      replace S8 := S8.grow g6
      replace r0 := g6.cell r0
      replace r1 := g6.cell r1
      replace G := G.trans g6
      go_wp2_with fail
      refine (CF.out (by trivial) A8 c8 B8 d8 _ S8 (hT.grow G)).mono ?_
      rintro e v7 ⟨rfl, g7⟩
      go_wp2_with fail
      go_ret
      exact ⟨by simp, G.trans g7⟩
    | false =>
      go_wp2_with fail
      refine (CE.out A8 c8 B8 d8 A9 c9 B9 d9 _ S8 S9).mono ?_
      rintro e v6 ⟨rfl, g6⟩
      replace G := G.trans g6
      go_wp2_with fail
      go_ret
      exact ⟨by simp, G⟩
  | false =>
    refine pop_skip 20 rfl (by kernel_rfl) (by kernel_rfl) (by kernel_rfl) (fun _ _ _ h => h) (by rfl) (by assumption) ?_
    (try simp only [Act.put, List.setIfInBounds_toArray, List.set_cons_zero, List.set_cons_succ])
    refine pop_skip 21 rfl (by kernel_rfl) (by kernel_rfl) (by kernel_rfl) (fun _ _ _ h => h) (by rfl) (by assumption) ?_
    (try simp only [Act.put, List.setIfInBounds_toArray, List.set_cons_zero, List.set_cons_succ])
    refine pop_one 22 (by kernel_rfl) rfl (fun K hK => ?_)
    go_simp
    refine hK.out _ _ hHeld (fun hHeld => ?_)
    clear hK K
    (try simp only [Act.put, List.setIfInBounds_toArray, List.set_cons_zero, List.set_cons_succ])
    refine pop_skip 23 rfl (by kernel_rfl) (by kernel_rfl) (by kernel_rfl) (fun _ _ _ h => h) (by rfl) (by assumption) ?_
    (try simp only [Act.put, List.setIfInBounds_toArray, List.set_cons_zero, List.set_cons_succ])
    refine pop_take 24 (v := ?_) rfl (by kernel_rfl) (by kernel_rfl) (by kernel_rfl) (fun _ _ _ h => h) (by rfl) (by assumption) ?_ ?_
    rotate_left 1
    · (intro W hSw; (try dsimp only at hSw); go_simp; (try with_reducible rfl))
    (try simp only [Act.put, List.setIfInBounds_toArray, List.set_cons_zero, List.set_cons_succ])
    refine pop_take 25 (v := ?_) rfl (by kernel_rfl) (by kernel_rfl) (by kernel_rfl) (fun _ _ _ h => h) (by rfl) (by assumption) ?_ ?_
    rotate_left 1
    · (intro W hSw; (try dsimp only at hSw); go_simp; (try with_reducible rfl))
    (try simp only [Act.put, List.setIfInBounds_toArray, List.set_cons_zero, List.set_cons_succ])
    refine wpAnyH_done (by kernel_rfl) ?_ _
    replace G := G.trans hHeld.2.2
    clear hHeld y5 y7 p0 p1 q0 q1 keep CG CV CW S U
    go_wp2_with fail
    refine (DrawParseState_c B m d _ (hB.grow G) hm hmd).mono ?_
    rintro e v1 ⟨⟨t, ht, rfl⟩, g1⟩
    obtain ⟨⟨⟨hf, ha⟩, b⟩, hr⟩ : ∃ r, r = Pl.pS t := ⟨_, rfl⟩
    have hlen := Pl.pS_lens t
    rw [← hr] at hlen
    have hl1 : hf.length ≤ 12 := Nat.le_trans hlen.1 (by omega)
    have hl2 : ha.length ≤ 12 := Nat.le_trans hlen.2 (by omega)
    have CI := Lib.hid (show ∀ W, TabN W → MaxL W → Calls Tryd.prog 15 #[.string (Pl.str t)] W (RSt W (⟨hf, ha⟩, b)) from fun W k k' => by rw [hr]; exact ParseState_c t W (by omega) k k')
    have CS := Lib.hid (show ∀ W, Calls Tryd.prog 14 #[.string (Pl.str t)] W (RSt W (⟨hf, ha⟩, b)) from fun W => by rw [hr]; exact sParseState_c t W (by omega))
    have CF := Lib.hid (show b = true → ∀ A c B d W, Sts W A B ⟨hf, ha⟩ → TabN W → Calls Tryd.prog 12 #[.agg #[.slice A hf.length c, .slice B ha.length d]] W fun e w' => e = .returned (.string (Pl.str t)) ∧ Grow W w' from fun hb A c B d W k k' => by
      have := FormatState_c A B c d ⟨hf, ha⟩ W k (by show hf.length ≤ _; omega) (by show ha.length ≤ _; omega) k'
      rw [Pl.parse_fmtS (show Pl.pS t = (⟨hf, ha⟩, true) by rw [← hr, hb])] at this
      exact this)
    have CE := Lib.hid (show ∀ A c B d A' c' B' d' W, Sts W A B ⟨hf, ha⟩ → Sts W A' B' ⟨hf, ha⟩ → Calls Tryd.prog 21 #[.agg #[.slice A hf.length c, .slice B ha.length d], .agg #[.slice A' hf.length c', .slice B' ha.length d']] W fun e w' => e = .returned (.bool true) ∧ Grow W w' from fun A c B d A' c' B' d' W k k' => by
      have := StateSame_c A B A' B' c d c' d' ⟨hf, ha⟩ ⟨hf, ha⟩ W k k' (by show hf.length ≤ _; omega) (by show ha.length ≤ _; omega) (by show hf.length ≤ _; omega) (by show ha.length ≤ _; omega)
      rw [decide_eq_true rfl] at this
      exact this)
    clear hr hlen
    replace G := G.trans g1
    go_wp2_with fail
    refine (CI.out _ (hT.grow G) (hM.grow G)).mono ?_
    rintro e v2 ⟨A8, B8, c8, d8, rfl, o8, g2⟩
    have y10 := Box2.new v2 27 (.slice A8 hf.length c8) (.slice B8 ha.length d8)
    have q : Grow v2 (v2.alloc (.cells #[.slice A8 hf.length c8, .slice B8 ha.length d8] 27)) := (by repeat (first | exact Grow.refl _ | assumption | refine Grow.alloc ?_ _ | refine Grow.drew ?_ | refine Grow.drewN ?_ _ | refine Grow.trans ?_ (by assumption) | refine Grow.below ?_ (by assumption) (by first | exact Nat.le_refl _ | omega)))
    have S8 := o8.st.grow q
    replace G := (G.trans g2).trans q
    clear g1 g2 q o8
    go_wp2_with fail
    generalize v2.alloc (.cells #[.slice A8 hf.length c8, .slice B8 ha.length d8] 27) = v3 at *
    refine (CS.out _).mono ?_
    rintro e v4 ⟨A9, B9, c9, d9, rfl, o9, g4⟩
    have y12 := Box2.new v4 27 (.slice A9 hf.length c9) (.slice B9 ha.length d9)
    have q : Grow v4 (v4.alloc (.cells #[.slice A9 hf.length c9, .slice B9 ha.length d9] 27)) := (by repeat (first | exact Grow.refl _ | assumption | refine Grow.alloc ?_ _ | refine Grow.drew ?_ | refine Grow.drewN ?_ _ | refine Grow.trans ?_ (by assumption) | refine Grow.below ?_ (by assumption) (by first | exact Nat.le_refl _ | omega)))
    have S9 := o9.st.grow q
    replace S8 := S8.grow (g4.trans q)
    replace y10 := y10.grow (g4.trans q)
    replace G := (G.trans g4).trans q
    clear g4 q o9
    obtain ⟨r0, r1, _, _⟩ := y10.facts
    obtain ⟨s0, s1, _, _⟩ := y12.facts
    have hst : ((Pl.str t).toList == (Pl.str t).toList) = true := str_yes rfl
    cases b with
    | true =>
      go_wp2_with fail
      refine (CE.out A8 c8 B8 d8 A9 c9 B9 d9 _ S8 S9).mono ?_
      rintro e v6 ⟨rfl, g6⟩
      replace S8 := S8.grow g6
      replace r0 := g6.cell r0
      replace r1 := g6.cell r1
      replace G := G.trans g6
      go_wp2_with fail
      refine (CF.out (by trivial) A8 c8 B8 d8 _ S8 (hT.grow G)).mono ?_
      rintro e v7 ⟨rfl, g7⟩
      go_wp2_with fail
      go_ret
      exact ⟨by simp, G.trans g7⟩
    | false =>
      go_wp2_with fail
      refine (CE.out A8 c8 B8 d8 A9 c9 B9 d9 _ S8 S9).mono ?_
      rintro e v6 ⟨rfl, g6⟩
      replace G := G.trans g6
      go_wp2_with fail
      go_ret
      exact ⟨by simp, G⟩

set_option maxRecDepth 100000 in
theorem contract (H : Type) (enc : TypeId × Value → H) (W : World) (base : Nat) (args : Array Value) (ds gs : List (DataW H)) (before : List MemPlace)
    (hval0 : ∀ (j : Nat) t v, Tryd.f5.params[j]? = some t → args[j]? = some v → Value.okWide Tryd.prog W .any base t v)
    (hW : DataW.Whole enc Tryd.prog Tryd.f5.params.toList Rows.fnStateTextSpec.vars false W args.toList ds gs before) (hSh : W.ShapedOpen Tryd.prog) (hL : laidMetH Tryd.prog Rows.fnStateTextRow.laid W) :
    Calls Tryd.prog 5 args W fun e W' => ∃ v, e = .returned v ∧ Rows.fnStateTextSpec.post enc Tryd.prog Tryd.f5 false true false false W args v W' := by
  have hval : ∀ (j : Nat) t v, Tryd.f5.params[j]? = some t → args[j]? = some v → Value.okWide Tryd.prog W .any base t v := hval0
  have hW' := hW
  obtain ⟨p, q, hA0, hV, rfl, hfz, hnd⟩ := hW
  have hA : DataW.TrodAll enc Tryd.prog W 0 (fun _ => true) true Tryd.f5.params.toList args.toList ds p := hA0
  rw [Tryd.params5] at hA hval
  obtain ⟨v0, vs0, d0, ds0, p0, q0, hargs, rfl, rfl, h0, r0⟩ := trodAll_cons hA
  obtain ⟨v1, vs1, d1, ds1, p1, q1, rfl, rfl, rfl, h1, r1⟩ := trodAll_cons r0
  obtain ⟨rfl, rfl, rfl⟩ := trodAll_nil r1
  obtain rfl : args = #[v0, v1] := by cases args; simp_all
  have hV2 := hV
  obtain ⟨dv, rfl⟩ : ∃ dv, gs = [dv] := by obtain ⟨_, _, _, _, d, _, e, _⟩ := trodVars_one hV; exact ⟨d, e⟩
  have k0 := h0
  have lt0 : ∀ x ∈ p0, x.block < W.heap.size := by obtain ⟨m, hm⟩ := k0; exact DataW.trod_lt m _ _ _ hm
  obtain ⟨a0, len0, cap0, rfl⟩ := okWide_slice Tryd.underlying35 (hval 0 35 v0 rfl rfl)
  obtain ⟨hb0, w0, hc0⟩ : len0 ≤ 9223372036854775807 ∧ Bytes W a0 len0 ∧ len0 ≤ cap0 := by
    obtain ⟨fuel, hf⟩ := h0
    exact open_bytesL (by simpa [Value.cells] using hf)
  have k1 := h1
  have lt1 : ∀ x ∈ p1, x.block < W.heap.size := by obtain ⟨m, hm⟩ := k1; exact DataW.trod_lt m _ _ _ hm
  obtain ⟨a1, len1, cap1, rfl⟩ := okWide_slice Tryd.underlying35 (hval 1 35 v1 rfl rfl)
  obtain ⟨hb1, w1, hc1⟩ : len1 ≤ 9223372036854775807 ∧ Bytes W a1 len1 ∧ len1 ≤ cap1 := by
    obtain ⟨fuel, hf⟩ := h1
    exact open_bytesL (by simpa [Value.cells] using hf)
  clear hA0 hval0
  refine (walk a0 cap0 len0 a1 cap1 len1 W w0 hb0 hc0 w1 hb1 hc1 (names_metL (show laidMet Tryd.prog Rows.fnStateTextRow.laid W from hL) (by repeat (first | exact List.mem_cons_self | refine List.mem_cons_of_mem _ ?_))) (maxl_of hSh)).mono fun e W' ⟨he, bel⟩ => ?_
  subst he
  exact ⟨_, rfl, _, _, _, [], _, q, hW', trodAll_mk1 (shut_bool Tryd.underlying4 _), (trodAll_cons_mk (Below.trod laid_out (by kernel_rfl) (of_decide_eq_true (by kernel_rfl)) k0 bel lt0) (trodAll_cons_mk (Below.trod laid_out (by kernel_rfl) (of_decide_eq_true (by kernel_rfl)) k1 bel lt1) trodAll_mk0)), Below.trodVars laid_out bel (by kernel_rfl) hV2, bel.frame _, fun h => by cases h⟩

set_option maxRecDepth 100000 in
theorem lifted (os : Os) (started : os.Started) (H : Type) (enc : TypeId × Value → H) (F : Stop.Interp) :
    ReturnsInHanded {} Tryd.checked os 5 .any ((OpenSpec.ofChange Rows.fnStateTextSpec).preRow enc Tryd.prog Tryd.f5 Rows.fnStateTextRow.domain false Rows.fnStateTextRow.laid) (((OpenSpec.ofChange Rows.fnStateTextSpec).at F).post enc Tryd.prog Tryd.f5 false true false false) := by
  obtain ⟨x, hx⟩ := Option.isSome_iff_exists.1 (show (DataW.whole enc Tryd.prog ((World.laidAll Tryd.prog os Rows.fnStateTextRow.laid).forCall (fun _ _ => 0) ⟨#[], #[.slice none 0 0, .slice none 0 0], []⟩).memory Tryd.f5.params.toList Rows.fnStateTextSpec.vars false (#[.slice none 0 0, .slice none 0 0] : Array Value).toList 8).isSome = true by kernel_rfl)
  refine returnsInHanded_of_row (C := Tryd.checked) (s := OpenSpec.ofChange Rows.fnStateTextSpec) own_knob started (by kernel_rfl) Tryd.func5
    (witness_row_at (enc := enc) (C := Tryd.checked) false (World.laidAll Tryd.prog os Rows.fnStateTextRow.laid) #[.slice none 0 0, .slice none 0 0] (World.laidAll_os _ _ _) (by kernel_rfl) (by kernel_rfl) (by kernel_rfl)
      (OpenSpec.preRow_of_cond 8 hx rfl (fun k hk => by cases hk) (by kernel_rfl) (show laidMet Tryd.prog Rows.fnStateTextRow.laid _ from laidMet_laidAll _ (by kernel_rfl) (by kernel_rfl)))) ?_
  intro W base args ds gs before hval hW _ _ _ hL hSh _
  exact contract H enc W base args ds gs before hval hW hSh hL

theorem said : Rows.FnStateTextSaid :=
  OpenClaim.holds_of_cond 5 Tryd.f5 rfl rfl rfl rfl rfl rfl rfl ⟨rfl, rfl, rfl, rfl, rfl⟩ rfl rfl rfl rfl rfl (by kernel_rfl) Tryd.func5 (by kernel_rfl)
    (of_decide_eq_true (by kernel_rfl)) (by unfold Func.isWrapper; first | (rw [if_pos (by decide +kernel)]; kernel_rfl) | (rw [if_neg (by decide +kernel)]; exact ⟨rfl, rfl⟩))
    (fun os started H enc _ F => by rw [OpenClaim.pre_eq_preRow]; exact lifted os started H enc F)

theorem plain (f : FuncId) (fn : Func) (hf : Tryd.pinned.checked.prog.funcNamed "loop.example/separation/laws.FnStateText" = some f) (hfn : Tryd.pinned.checked.prog.funcs[f]? = some fn) :
    false = Tryd.pinned.checked.prog.looks [] ∧ ∀ (j : Nat) t, fn.params[j]? = some t → Tryd.pinned.checked.prog.wantsStandIn t = false := by
  obtain rfl : f = 5 := Option.some.inj ((show Tryd.prog.funcNamed "loop.example/separation/laws.FnStateText" = some 5 by kernel_rfl).symm.trans hf) |>.symm
  obtain rfl : fn = Tryd.f5 := (Option.some.inj (Tryd.func5.symm.trans hfn)).symm
  refine ⟨by kernel_rfl, fun j t ht => ?_⟩
  rw [Tryd.params5] at ht
  obtain rfl : t = 35 := by simpa using Array.mem_of_getElem? ht
  exact (show Tryd.prog.wantsStandIn 35 = false by kernel_rfl)

/-- The card. -/
theorem proved : Rows.FnStateTextCardSaid :=
  Claim7.holds_tied_plain_at .later [] _ _ _ _ said (fun _ h => by cases h) (by kernel_rfl) (fun _ h => by cases h) fnStateText_row_tie rfl ⟨rfl, rfl⟩ (by kernel_rfl) rfl plain (by kernel_rfl)
#print axioms proved

end Go.Proofs.YtifdefkkofngoaaDoor.lawFnStateText
