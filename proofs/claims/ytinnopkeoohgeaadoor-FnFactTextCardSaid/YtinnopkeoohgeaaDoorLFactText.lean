/- FnFactText: formatting and parsing facts are inverse. No conditions. -/
import Derived.Test.YtinnopkeoohgeaaDoorDrawFt
import Derived.Test.YtinnopkeoohgeaaDoorRowT
namespace Go.Proofs.YtinnopkeoohgeaaDoor.lawFnFactText
open Go.ChangeShapes Go.WideShapes Go.ChangeAt Go.RowKit Go.Joins Go.Deep
open Go.ChangeMaps (open_string shut_string)
set_option linter.unusedVariables false
set_option linter.unusedSimpArgs false

theorem pop_skip {P : Program} {md : Region.Mode} {Q : Exit → Act → World → Prop} {S : World → Prop} {os : List Oper} (i : Nat) {oi : Oper} {fuel : Nat} {listed : Array Bool} {a : Act} {w : World} (hi : os[i]? = some oi)
    (hs : Region.noSelect os.toArray = true) (hf : Region.free md os.toArray listed i = true) (hr : (Region.ready md os.toArray listed).contains i = true)
    (hQ : ∀ c a w, Q (.panic c) (a.put oi.dst undef) w → Q (.panic c) a w) (hw : Region.wanted oi (yielded os.toArray a.tmps) = false) (hS : S w)
    (h : wpAnyH P md os.toArray Q S fuel (listed.setIfInBounds i true) (a.put oi.dst undef) w) : wpAnyH P md os.toArray Q S (fuel + 1) listed a w :=
  wpAnyH_take (by rw [List.getElem?_toArray]; exact hi) hs hf hr hQ (.inr ⟨hw, rfl⟩) hS h
theorem fmt_parse (f : Pl.Fct) : (Pl.pF (Pl.fmtF f)).2 = Pl.fv f ∧ (Pl.fv f = true → (Pl.pF (Pl.fmtF f)).1 = f) := by
  cases h : Pl.fv f with
  | true => rw [Pl.fmtF, if_pos h, Pl.pF_txF h]; exact ⟨rfl, fun _ => rfl⟩
  | false =>
    have e : Pl.fmtF f = [] := by unfold Pl.fmtF; rw [h]; rfl
    rw [e]; exact ⟨by decide, fun h => by cases h⟩
theorem fmt_len (f : Pl.Fct) : (Pl.fmtF f).length ≤ 8 := by
  unfold Pl.fmtF; split
  · exact Pl.txF_len f
  · simp


set_option maxRecDepth 100000 in
set_option maxHeartbeats 6400000 in
theorem walk (A : Option Addr) (c n : Nat) (B : Option Addr) (d m : Nat) (w : World) (hA : Bytes w A n) (hn : n ≤ 9223372036854775807) (hnc : n ≤ c) (hB : Bytes w B m) (hm : m ≤ 9223372036854775807) (hmd : m ≤ d) (hT : TabN w) (hM : MaxL w) :
    Calls Tryd.prog 4 #[.slice A n c, .slice B m d] w fun e w' => e = .returned (.bool true) ∧ Grow w w' := by
  by_cases hn20 : (1048576 : Int) < (n : Int)
  · go_enter Tryd.func4, Tryd.ntmps4
    go_wp2
    go_ret
    exact ⟨rfl, (by repeat (first | exact Grow.refl _ | assumption | refine Grow.alloc ?_ _ | refine Grow.drew ?_ | refine Grow.drewN ?_ _ | refine Grow.trans ?_ (by assumption) | refine Grow.below ?_ (by assumption) (by first | exact Nat.le_refl _ | omega)))⟩
  by_cases hm20 : (1048576 : Int) < (m : Int)
  · go_enter Tryd.func4, Tryd.ntmps4
    go_wp2
    go_ret
    exact ⟨rfl, (by repeat (first | exact Grow.refl _ | assumption | refine Grow.alloc ?_ _ | refine Grow.drew ?_ | refine Grow.drewN ?_ _ | refine Grow.trans ?_ (by assumption) | refine Grow.below ?_ (by assumption) (by first | exact Nat.le_refl _ | omega)))⟩
  go_enter Tryd.func4, Tryd.ntmps4
  go_wp2_with fail
  refine (DrawFormatFact_c A n c _ hA hn hnc).mono ?_
  rintro e w1 ⟨⟨f, rfl⟩, g1⟩
  obtain ⟨s, hs⟩ : ∃ s, s = Pl.fmtF f := ⟨_, rfl⟩
  have hsl : s.length ≤ 8 := by rw [hs]; exact fmt_len f
  obtain ⟨fvb, hfv⟩ : ∃ b, b = Pl.fv f := ⟨_, rfl⟩
  obtain ⟨⟨u, ub⟩, hu⟩ : ∃ r, r = Pl.pF s := ⟨_, rfl⟩
  have L := fmt_parse f
  rw [← hs, ← hu, ← hfv] at L
  obtain ⟨L1, L2⟩ := L
  replace L1 : ub = fvb := L1
  replace L2 : fvb = true → u = f := L2
  have CF := Lib.hid (show ∀ W, TabN W → Calls Tryd.prog 17 #[.agg #[.bool f.e, .int .i64 f.a, .int .i64 f.b]] W fun e w' => e = .returned (.string (Pl.str s)) ∧ Grow W w' from fun W k => by rw [hs]; exact FormatFact_c f W k)
  have CG := Lib.hid (show ∀ W, Calls Tryd.prog 18 #[.agg #[.bool f.e, .int .i64 f.a, .int .i64 f.b]] W fun e w' => e = .returned (.string (Pl.str s)) ∧ Grow W w' from fun W => by rw [hs]; exact sFormatFact_c f W)
  have CV := Lib.hid (show ∀ W, Calls Tryd.prog 19 #[.agg #[.bool f.e, .int .i64 f.a, .int .i64 f.b]] W fun e w' => e = .returned (.bool fvb) ∧ Grow W w' from fun W => by rw [hfv]; exact FactValid_c f W)
  have CW := Lib.hid (show ∀ W, Calls Tryd.prog 20 #[.agg #[.bool f.e, .int .i64 f.a, .int .i64 f.b]] W fun e w' => e = .returned (.bool fvb) ∧ Grow W w' from fun W => by rw [hfv]; exact sFactValid_c f W)
  have CP := Lib.hid (show ∀ W, TabN W → MaxL W → Calls Tryd.prog 14 #[.string (Pl.str s)] W fun e w' => e = .returned (.tuple #[fval u, .bool fvb]) ∧ Grow W w' from fun W k k' => by have := ParseFact_c s W (by omega) k k'; rw [← hu, L1] at this; exact this)
  clear hs hfv hu L1 ub
  have y5 := Box3.new w1 23 (.bool f.e) (.int .i64 f.a) (.int .i64 f.b)
  have q : Grow w1 (w1.alloc (.cells #[.bool f.e, .int .i64 f.a, .int .i64 f.b] 23)) := (by repeat (first | exact Grow.refl _ | assumption | refine Grow.alloc ?_ _ | refine Grow.drew ?_ | refine Grow.drewN ?_ _ | refine Grow.trans ?_ (by assumption) | refine Grow.below ?_ (by assumption) (by first | exact Nat.le_refl _ | omega)))
  have G := g1.trans q
  clear g1 q
  obtain ⟨p0, p1, p2⟩ := y5.facts
  go_wp2_with fail
  generalize w1.alloc (.cells #[.bool f.e, .int .i64 f.a, .int .i64 f.b] 23) = w2 at *
  refine (CF.out _ (hT.grow G)).mono ?_
  rintro e w3 ⟨rfl, g3⟩
  replace y5 := y5.grow g3
  replace G := G.trans g3
  clear g3 p0 p1 p2 CF
  go_wp2_with fail
  refine (CP.out _ (hT.grow G) (hM.grow G)).mono ?_
  rintro e w4 ⟨rfl, g4⟩
  have y7 := Box3.new w4 23 (.bool u.e) (.int .i64 u.a) (.int .i64 u.b)
  have q : Grow w4 (w4.alloc (.cells #[.bool u.e, .int .i64 u.a, .int .i64 u.b] 23)) := (by repeat (first | exact Grow.refl _ | assumption | refine Grow.alloc ?_ _ | refine Grow.drew ?_ | refine Grow.drewN ?_ _ | refine Grow.trans ?_ (by assumption) | refine Grow.below ?_ (by assumption) (by first | exact Nat.le_refl _ | omega)))
  replace y5 := y5.grow (g4.trans q)
  replace G := (G.trans g4).trans q
  clear g4 q CP
  have hst : ((Pl.str s).toList == (Pl.str s).toList) = true := str_yes rfl
  go_wp2_with fail
  generalize w4.alloc (.cells #[.bool u.e, .int .i64 u.a, .int .i64 u.b] 23) = w5 at *
  obtain ⟨p0, p1, p2⟩ := y5.facts
  obtain ⟨q0, q1, q2⟩ := y7.facts
  have keep : ∀ {W W' : World} {x0 x1 x2 x3 x4 x5 : Addr} {u0 u1 u2 u3 u4 u5 : Value}, Grow W W' → (W.cell? x0 = some u0 ∧ W.cell? x1 = some u1 ∧ W.cell? x2 = some u2) ∧ (W.cell? x3 = some u3 ∧ W.cell? x4 = some u4 ∧ W.cell? x5 = some u5) ∧ Grow w5 W → (W'.cell? x0 = some u0 ∧ W'.cell? x1 = some u1 ∧ W'.cell? x2 = some u2) ∧ (W'.cell? x3 = some u3 ∧ W'.cell? x4 = some u4 ∧ W'.cell? x5 = some u5) ∧ Grow w5 W' := fun g k => ⟨⟨g.cell k.1.1, g.cell k.1.2.1, g.cell k.1.2.2⟩, ⟨g.cell k.2.1.1, g.cell k.2.1.2.1, g.cell k.2.1.2.2⟩, k.2.2.trans g⟩
  refine wp_region_held_drew (S := (fun W => (W.cell? ⟨w1.heap.size, 0, none⟩ = some (.bool f.e) ∧ W.cell? ⟨w1.heap.size, 1, none⟩ = some (.int .i64 f.a) ∧ W.cell? ⟨w1.heap.size, 2, none⟩ = some (.int .i64 f.b)) ∧ (W.cell? ⟨w4.heap.size, 0, none⟩ = some (.bool u.e) ∧ W.cell? ⟨w4.heap.size, 1, none⟩ = some (.int .i64 u.a) ∧ W.cell? ⟨w4.heap.size, 2, none⟩ = some (.int .i64 u.b)) ∧ Grow w5 W)) (by kernel_rfl) ?_ (fun hHeld => ?_)
  · exact ⟨⟨p0, p1, p2⟩, ⟨q0, q1, q2⟩, (by repeat (first | exact Grow.refl _ | assumption | refine Grow.alloc ?_ _ | refine Grow.drew ?_ | refine Grow.drewN ?_ _ | refine Grow.trans ?_ (by assumption) | refine Grow.below ?_ (by assumption) (by first | exact Nat.le_refl _ | omega)))⟩
  refine pop_take 0 (v := ?_) rfl (by kernel_rfl) (by kernel_rfl) (by kernel_rfl) (fun _ _ _ h => h) (by rfl) (by assumption) ?_ ?_
  rotate_left 1
  · (intro W hSw; (try dsimp only at hSw); go_simp; (try with_reducible rfl))
  (try simp only [Act.put, List.setIfInBounds_toArray, List.set_cons_zero, List.set_cons_succ])
  refine pop_take 1 (v := ?_) rfl (by kernel_rfl) (by kernel_rfl) (by kernel_rfl) (fun _ _ _ h => h) (by rfl) (by assumption) ?_ ?_
  rotate_left 1
  · (intro W hSw; (try dsimp only at hSw); go_simp; (try with_reducible rfl))
  (try simp only [Act.put, List.setIfInBounds_toArray, List.set_cons_zero, List.set_cons_succ])
  refine pop_one 2 (by kernel_rfl) rfl (fun K hK => ?_)
  go_simp
  (go_at_call 18; (with_reducible refine (CG.out _).mono ?_); rintro e x1 ⟨rfl, g1⟩)
  go_wp2_with fail
  refine hK.out _ _ ?_ (fun hHeld => ?_)
  · exact keep g1 hHeld
  clear hK K
  (try simp only [Act.put, List.setIfInBounds_toArray, List.set_cons_zero, List.set_cons_succ])
  refine pop_take 3 (v := ?_) rfl (by kernel_rfl) (by kernel_rfl) (by kernel_rfl) (fun _ _ _ h => h) (by rfl) (by assumption) ?_ ?_
  rotate_left 1
  · (intro W hSw; (try dsimp only at hSw); go_simp; (try with_reducible rfl))
  (try simp only [Act.put, List.setIfInBounds_toArray, List.set_cons_zero, List.set_cons_succ])
  refine pop_take 4 (v := ?_) rfl (by kernel_rfl) (by kernel_rfl) (by kernel_rfl) (fun _ _ _ h => h) (by rfl) (by assumption) ?_ ?_
  rotate_left 1
  · (intro W hSw; (try dsimp only at hSw); go_simp; (try with_reducible rfl))
  (try simp only [Act.put, List.setIfInBounds_toArray, List.set_cons_zero, List.set_cons_succ])
  refine pop_take 5 (v := ?_) rfl (by kernel_rfl) (by kernel_rfl) (by kernel_rfl) (fun _ _ _ h => h) (by rfl) (by assumption) ?_ ?_
  rotate_left 1
  · (intro W hSw; (try dsimp only at hSw); go_simp; (try with_reducible rfl))
  (try simp only [Act.put, List.setIfInBounds_toArray, List.set_cons_zero, List.set_cons_succ])
  refine pop_take 7 (v := ?_) rfl (by kernel_rfl) (by kernel_rfl) (by kernel_rfl) (fun _ _ _ h => h) (by rfl) (by assumption) ?_ ?_
  rotate_left 1
  · (intro W hSw; (try dsimp only at hSw); go_simp; (try with_reducible rfl))
  (try simp only [Act.put, List.setIfInBounds_toArray, List.set_cons_zero, List.set_cons_succ])
  refine pop_one 6 (by kernel_rfl) rfl (fun K hK => ?_)
  go_simp
  (go_at_call 19; (with_reducible refine (CV.out _).mono ?_); rintro e x2 ⟨rfl, g2⟩)
  go_wp2_with fail
  refine hK.out _ _ ?_ (fun hHeld => ?_)
  · exact keep g2 hHeld
  clear hK K
  (try simp only [Act.put, List.setIfInBounds_toArray, List.set_cons_zero, List.set_cons_succ])
  refine pop_one 8 (by kernel_rfl) rfl (fun K hK => ?_)
  go_simp
  (go_at_call 20; (with_reducible refine (CW.out _).mono ?_); rintro e x3 ⟨rfl, g3⟩)
  go_wp2_with fail
  refine hK.out _ _ ?_ (fun hHeld => ?_)
  · exact keep g3 hHeld
  clear hK K
  (try simp only [Act.put, List.setIfInBounds_toArray, List.set_cons_zero, List.set_cons_succ])
  refine pop_take 9 (v := ?_) rfl (by kernel_rfl) (by kernel_rfl) (by kernel_rfl) (fun _ _ _ h => h) (by rfl) (by assumption) ?_ ?_
  rotate_left 1
  · (intro W hSw; (try dsimp only at hSw); go_simp; (try with_reducible rfl))
  (try simp only [Act.put, List.setIfInBounds_toArray, List.set_cons_zero, List.set_cons_succ])
  refine pop_take 10 (v := ?_) rfl (by kernel_rfl) (by kernel_rfl) (by kernel_rfl) (fun _ _ _ h => h) (by rfl) (by assumption) ?_ ?_
  rotate_left 1
  · (intro W hSw; (try dsimp only at hSw); go_simp; (try with_reducible rfl))
  (try simp only [Act.put, List.setIfInBounds_toArray, List.set_cons_zero, List.set_cons_succ])
  refine pop_take 11 (v := ?_) rfl (by kernel_rfl) (by kernel_rfl) (by kernel_rfl) (fun _ _ _ h => h) (by rfl) (by assumption) ?_ ?_
  rotate_left 1
  · (intro W hSw; (try dsimp only at hSw); go_simp; (try with_reducible rfl))
  (try simp only [Act.put, List.setIfInBounds_toArray, List.set_cons_zero, List.set_cons_succ])
  refine pop_take 12 (v := ?_) rfl (by kernel_rfl) (by kernel_rfl) (by kernel_rfl) (fun _ _ _ h => h) (by rfl) (by assumption) ?_ ?_
  rotate_left 1
  · (intro W hSw; (try dsimp only at hSw); go_simp; (try with_reducible rfl))
  (try simp only [Act.put, List.setIfInBounds_toArray, List.set_cons_zero, List.set_cons_succ])
  refine pop_take 13 (v := ?_) rfl (by kernel_rfl) (by kernel_rfl) (by kernel_rfl) (fun _ _ _ h => h) (by rfl) (by assumption) ?_ ?_
  rotate_left 1
  · (intro W hSw; (try dsimp only at hSw); go_simp; (try with_reducible rfl))
  (try simp only [Act.put, List.setIfInBounds_toArray, List.set_cons_zero, List.set_cons_succ])
  refine pop_one 14 (by kernel_rfl) rfl (fun K hK => ?_)
  go_simp
  (go_at_call 20; (with_reducible refine (CW.out _).mono ?_); rintro e x4 ⟨rfl, g4⟩)
  go_wp2_with fail
  refine hK.out _ _ ?_ (fun hHeld => ?_)
  · exact keep g4 hHeld
  clear hK K
  (try simp only [Act.put, List.setIfInBounds_toArray, List.set_cons_zero, List.set_cons_succ])
  refine pop_take 15 (v := ?_) rfl (by kernel_rfl) (by kernel_rfl) (by kernel_rfl) (fun _ _ _ h => h) (by rfl) (by assumption) ?_ ?_
  rotate_left 1
  · (intro W hSw; (try dsimp only at hSw); go_simp; (try with_reducible rfl))
  (try simp only [Act.put, List.setIfInBounds_toArray, List.set_cons_zero, List.set_cons_succ])
  refine pop_take 16 (v := ?_) rfl (by kernel_rfl) (by kernel_rfl) (by kernel_rfl) (fun _ _ _ h => h) (by rfl) (by assumption) ?_ ?_
  rotate_left 1
  · (intro W hSw; (try dsimp only at hSw); go_simp; (try with_reducible rfl))
  (try simp only [Act.put, List.setIfInBounds_toArray, List.set_cons_zero, List.set_cons_succ])
  refine pop_take 17 (v := ?_) rfl (by kernel_rfl) (by kernel_rfl) (by kernel_rfl) (fun _ _ _ h => h) (by rfl) (by assumption) ?_ ?_
  rotate_left 1
  · (intro W hSw; (try dsimp only at hSw); go_simp; (try with_reducible rfl))
  (try simp only [Act.put, List.setIfInBounds_toArray, List.set_cons_zero, List.set_cons_succ])
  refine pop_take 18 (v := ?_) rfl (by kernel_rfl) (by kernel_rfl) (by kernel_rfl) (fun _ _ _ h => h) (by rfl) (by assumption) ?_ ?_
  rotate_left 1
  · (intro W hSw; (try dsimp only at hSw); go_simp; (try with_reducible rfl))
  (try simp only [Act.put, List.setIfInBounds_toArray, List.set_cons_zero, List.set_cons_succ])
  refine pop_take 19 (v := ?_) rfl (by kernel_rfl) (by kernel_rfl) (by kernel_rfl) (fun _ _ _ h => h) (by rfl) (by assumption) ?_ ?_
  rotate_left 1
  · (intro W hSw; (try dsimp only at hSw); go_simp; (try with_reducible rfl))
  (try simp only [Act.put, List.setIfInBounds_toArray, List.set_cons_zero, List.set_cons_succ])
  cases fvb with
  | true =>
    obtain rfl := L2 rfl
    refine pop_take 20 (v := ?_) rfl (by kernel_rfl) (by kernel_rfl) (by kernel_rfl) (fun _ _ _ h => h) (by rfl) (by assumption) ?_ ?_
    rotate_left 1
    · (intro W hSw; (try dsimp only at hSw); go_simp; (try with_reducible rfl))
    (try simp only [Act.put, List.setIfInBounds_toArray, List.set_cons_zero, List.set_cons_succ])
    refine pop_take 21 (v := ?_) rfl (by kernel_rfl) (by kernel_rfl) (by kernel_rfl) (fun _ _ _ h => h) (by rfl) (by assumption) ?_ ?_
    rotate_left 1
    · (intro W hSw; (try dsimp only at hSw); go_simp; (try with_reducible rfl))
    (try simp only [Act.put, List.setIfInBounds_toArray, List.set_cons_zero, List.set_cons_succ])
    refine pop_take 22 (v := ?_) rfl (by kernel_rfl) (by kernel_rfl) (by kernel_rfl) (fun _ _ _ h => h) (by rfl) (by assumption) ?_ ?_
    rotate_left 1
    · (intro W hSw; (try dsimp only at hSw); go_simp; (try with_reducible rfl))
    (try simp only [Act.put, List.setIfInBounds_toArray, List.set_cons_zero, List.set_cons_succ])
    refine pop_take 23 (v := ?_) rfl (by kernel_rfl) (by kernel_rfl) (by kernel_rfl) (fun _ _ _ h => h) (by rfl) (by assumption) ?_ ?_
    rotate_left 1
    · (intro W hSw; (try dsimp only at hSw); go_simp; (try with_reducible rfl))
    (try simp only [Act.put, List.setIfInBounds_toArray, List.set_cons_zero, List.set_cons_succ])
    refine pop_take 24 (v := ?_) rfl (by kernel_rfl) (by kernel_rfl) (by kernel_rfl) (fun _ _ _ h => h) (by rfl) (by assumption) ?_ ?_
    rotate_left 1
    · (intro W hSw; (try dsimp only at hSw); go_simp; (try with_reducible rfl))
    (try simp only [Act.put, List.setIfInBounds_toArray, List.set_cons_zero, List.set_cons_succ])
    refine wpAnyH_done (by kernel_rfl) ?_ _
    replace G := G.trans hHeld.2.2
    clear hHeld y5 y7 p0 p1 p2 q0 q1 q2 keep CG CV CW
    go_wp2_with fail
    refine (DrawParseFact_c B m d _ (hB.grow G) hm hmd).mono ?_
    rintro e v1 ⟨⟨t, ht, rfl⟩, g1⟩
    obtain ⟨⟨h, b⟩, hr⟩ : ∃ r, r = Pl.pF t := ⟨_, rfl⟩
    have CI := Lib.hid (show ∀ W, TabN W → MaxL W → Calls Tryd.prog 14 #[.string (Pl.str t)] W fun e w' => e = .returned (.tuple #[fval h, .bool b]) ∧ Grow W w' from fun W k k' => by have := ParseFact_c t W (by omega) k k'; rw [← hr] at this; exact this)
    have CS := Lib.hid (show ∀ W, Calls Tryd.prog 13 #[.string (Pl.str t)] W fun e w' => e = .returned (.tuple #[fval h, .bool b]) ∧ Grow W w' from fun W => by have := sParseFact_c t W (by omega); rw [← hr] at this; exact this)
    have CF := Lib.hid (show b = true → ∀ W, TabN W → Calls Tryd.prog 17 #[.agg #[.bool h.e, .int .i64 h.a, .int .i64 h.b]] W fun e w' => e = .returned (.string (Pl.str t)) ∧ Grow W w' from fun hb W k => by
      have := FormatFact_c h W k
      obtain ⟨hv, htx⟩ := Pl.pF_sound (s := t) (f := h) (by rw [← hr, hb])
      rw [Pl.fmtF, if_pos hv, htx] at this
      exact this)
    clear hr
    replace G := G.trans g1
    go_wp2_with fail
    refine (CI.out _ (hT.grow G) (hM.grow G)).mono ?_
    rintro e v2 ⟨rfl, g2⟩
    have y10 := Box3.new v2 23 (.bool h.e) (.int .i64 h.a) (.int .i64 h.b)
    have q : Grow v2 (v2.alloc (.cells #[.bool h.e, .int .i64 h.a, .int .i64 h.b] 23)) := (by repeat (first | exact Grow.refl _ | assumption | refine Grow.alloc ?_ _ | refine Grow.drew ?_ | refine Grow.drewN ?_ _ | refine Grow.trans ?_ (by assumption) | refine Grow.below ?_ (by assumption) (by first | exact Nat.le_refl _ | omega)))
    replace G := (G.trans g2).trans q
    clear g1 g2 q
    go_wp2_with fail
    generalize v2.alloc (.cells #[.bool h.e, .int .i64 h.a, .int .i64 h.b] 23) = v3 at *
    refine (CS.out _).mono ?_
    rintro e v4 ⟨rfl, g4⟩
    have y12 := Box3.new v4 23 (.bool h.e) (.int .i64 h.a) (.int .i64 h.b)
    have q : Grow v4 (v4.alloc (.cells #[.bool h.e, .int .i64 h.a, .int .i64 h.b] 23)) := (by repeat (first | exact Grow.refl _ | assumption | refine Grow.alloc ?_ _ | refine Grow.drew ?_ | refine Grow.drewN ?_ _ | refine Grow.trans ?_ (by assumption) | refine Grow.below ?_ (by assumption) (by first | exact Nat.le_refl _ | omega)))
    replace y10 := y10.grow (g4.trans q)
    replace G := (G.trans g4).trans q
    clear g4 q
    obtain ⟨r0, r1, r2⟩ := y10.facts
    obtain ⟨s0, s1, s2⟩ := y12.facts
    have hst : ((Pl.str t).toList == (Pl.str t).toList) = true := str_yes rfl
    cases b with
    | true =>
      go_wp2_with fail
      refine (CF.out (by trivial) _ (hT.grow G)).mono ?_
      rintro e v6 ⟨rfl, g6⟩
      go_wp2_with fail
      go_ret
      exact ⟨by simp, G.trans g6⟩
    | false =>
      go_wp2_with fail
      go_ret
      exact ⟨by simp, G⟩
  | false =>
    refine pop_skip 20 rfl (by kernel_rfl) (by kernel_rfl) (by kernel_rfl) (fun _ _ _ h => h) (by rfl) (by assumption) ?_
    (try simp only [Act.put, List.setIfInBounds_toArray, List.set_cons_zero, List.set_cons_succ])
    refine pop_skip 21 rfl (by kernel_rfl) (by kernel_rfl) (by kernel_rfl) (fun _ _ _ h => h) (by rfl) (by assumption) ?_
    (try simp only [Act.put, List.setIfInBounds_toArray, List.set_cons_zero, List.set_cons_succ])
    refine pop_skip 22 rfl (by kernel_rfl) (by kernel_rfl) (by kernel_rfl) (fun _ _ _ h => h) (by rfl) (by assumption) ?_
    (try simp only [Act.put, List.setIfInBounds_toArray, List.set_cons_zero, List.set_cons_succ])
    refine pop_take 23 (v := ?_) rfl (by kernel_rfl) (by kernel_rfl) (by kernel_rfl) (fun _ _ _ h => h) (by rfl) (by assumption) ?_ ?_
    rotate_left 1
    · (intro W hSw; (try dsimp only at hSw); go_simp; (try with_reducible rfl))
    (try simp only [Act.put, List.setIfInBounds_toArray, List.set_cons_zero, List.set_cons_succ])
    refine pop_take 24 (v := ?_) rfl (by kernel_rfl) (by kernel_rfl) (by kernel_rfl) (fun _ _ _ h => h) (by rfl) (by assumption) ?_ ?_
    rotate_left 1
    · (intro W hSw; (try dsimp only at hSw); go_simp; (try with_reducible rfl))
    (try simp only [Act.put, List.setIfInBounds_toArray, List.set_cons_zero, List.set_cons_succ])
    refine wpAnyH_done (by kernel_rfl) ?_ _
    replace G := G.trans hHeld.2.2
    clear hHeld y5 y7 p0 p1 p2 q0 q1 q2 keep CG CV CW
    go_wp2_with fail
    refine (DrawParseFact_c B m d _ (hB.grow G) hm hmd).mono ?_
    rintro e v1 ⟨⟨t, ht, rfl⟩, g1⟩
    obtain ⟨⟨h, b⟩, hr⟩ : ∃ r, r = Pl.pF t := ⟨_, rfl⟩
    have CI := Lib.hid (show ∀ W, TabN W → MaxL W → Calls Tryd.prog 14 #[.string (Pl.str t)] W fun e w' => e = .returned (.tuple #[fval h, .bool b]) ∧ Grow W w' from fun W k k' => by have := ParseFact_c t W (by omega) k k'; rw [← hr] at this; exact this)
    have CS := Lib.hid (show ∀ W, Calls Tryd.prog 13 #[.string (Pl.str t)] W fun e w' => e = .returned (.tuple #[fval h, .bool b]) ∧ Grow W w' from fun W => by have := sParseFact_c t W (by omega); rw [← hr] at this; exact this)
    have CF := Lib.hid (show b = true → ∀ W, TabN W → Calls Tryd.prog 17 #[.agg #[.bool h.e, .int .i64 h.a, .int .i64 h.b]] W fun e w' => e = .returned (.string (Pl.str t)) ∧ Grow W w' from fun hb W k => by
      have := FormatFact_c h W k
      obtain ⟨hv, htx⟩ := Pl.pF_sound (s := t) (f := h) (by rw [← hr, hb])
      rw [Pl.fmtF, if_pos hv, htx] at this
      exact this)
    clear hr
    replace G := G.trans g1
    go_wp2_with fail
    refine (CI.out _ (hT.grow G) (hM.grow G)).mono ?_
    rintro e v2 ⟨rfl, g2⟩
    have y10 := Box3.new v2 23 (.bool h.e) (.int .i64 h.a) (.int .i64 h.b)
    have q : Grow v2 (v2.alloc (.cells #[.bool h.e, .int .i64 h.a, .int .i64 h.b] 23)) := (by repeat (first | exact Grow.refl _ | assumption | refine Grow.alloc ?_ _ | refine Grow.drew ?_ | refine Grow.drewN ?_ _ | refine Grow.trans ?_ (by assumption) | refine Grow.below ?_ (by assumption) (by first | exact Nat.le_refl _ | omega)))
    replace G := (G.trans g2).trans q
    clear g1 g2 q
    go_wp2_with fail
    generalize v2.alloc (.cells #[.bool h.e, .int .i64 h.a, .int .i64 h.b] 23) = v3 at *
    refine (CS.out _).mono ?_
    rintro e v4 ⟨rfl, g4⟩
    have y12 := Box3.new v4 23 (.bool h.e) (.int .i64 h.a) (.int .i64 h.b)
    have q : Grow v4 (v4.alloc (.cells #[.bool h.e, .int .i64 h.a, .int .i64 h.b] 23)) := (by repeat (first | exact Grow.refl _ | assumption | refine Grow.alloc ?_ _ | refine Grow.drew ?_ | refine Grow.drewN ?_ _ | refine Grow.trans ?_ (by assumption) | refine Grow.below ?_ (by assumption) (by first | exact Nat.le_refl _ | omega)))
    replace y10 := y10.grow (g4.trans q)
    replace G := (G.trans g4).trans q
    clear g4 q
    obtain ⟨r0, r1, r2⟩ := y10.facts
    obtain ⟨s0, s1, s2⟩ := y12.facts
    have hst : ((Pl.str t).toList == (Pl.str t).toList) = true := str_yes rfl
    cases b with
    | true =>
      go_wp2_with fail
      refine (CF.out (by trivial) _ (hT.grow G)).mono ?_
      rintro e v6 ⟨rfl, g6⟩
      go_wp2_with fail
      go_ret
      exact ⟨by simp, G.trans g6⟩
    | false =>
      go_wp2_with fail
      go_ret
      exact ⟨by simp, G⟩

set_option maxRecDepth 100000 in
theorem contract (H : Type) (enc : TypeId × Value → H) (W : World) (base : Nat) (args : Array Value) (ds gs : List (DataW H)) (before : List MemPlace)
    (hval0 : ∀ (j : Nat) t v, Tryd.f4.params[j]? = some t → args[j]? = some v → Value.okWide Tryd.prog W .any base t v)
    (hW : DataW.Whole enc Tryd.prog Tryd.f4.params.toList Rows.fnFactTextSpec.vars false W args.toList ds gs before) (hSh : W.ShapedOpen Tryd.prog) (hL : laidMetH Tryd.prog Rows.fnFactTextRow.laid W) :
    Calls Tryd.prog 4 args W fun e W' => ∃ v, e = .returned v ∧ Rows.fnFactTextSpec.post enc Tryd.prog Tryd.f4 false true false false W args v W' := by
  have hval : ∀ (j : Nat) t v, Tryd.f4.params[j]? = some t → args[j]? = some v → Value.okWide Tryd.prog W .any base t v := hval0
  have hW' := hW
  obtain ⟨p, q, hA0, hV, rfl, hfz, hnd⟩ := hW
  have hA : DataW.TrodAll enc Tryd.prog W 0 (fun _ => true) true Tryd.f4.params.toList args.toList ds p := hA0
  rw [Tryd.params4] at hA hval
  obtain ⟨v0, vs0, d0, ds0, p0, q0, hargs, rfl, rfl, h0, r0⟩ := trodAll_cons hA
  obtain ⟨v1, vs1, d1, ds1, p1, q1, rfl, rfl, rfl, h1, r1⟩ := trodAll_cons r0
  obtain ⟨rfl, rfl, rfl⟩ := trodAll_nil r1
  obtain rfl : args = #[v0, v1] := by cases args; simp_all
  have hV2 := hV
  obtain ⟨dv, rfl⟩ : ∃ dv, gs = [dv] := by obtain ⟨_, _, _, _, d, _, e, _⟩ := trodVars_one hV; exact ⟨d, e⟩
  have k0 := h0
  have lt0 : ∀ x ∈ p0, x.block < W.heap.size := by obtain ⟨m, hm⟩ := k0; exact DataW.trod_lt m _ _ _ hm
  obtain ⟨a0, len0, cap0, rfl⟩ := okWide_slice Tryd.underlying28 (hval 0 28 v0 rfl rfl)
  obtain ⟨hb0, w0, hc0⟩ : len0 ≤ 9223372036854775807 ∧ Bytes W a0 len0 ∧ len0 ≤ cap0 := by
    obtain ⟨fuel, hf⟩ := h0
    exact open_bytesL (by simpa [Value.cells] using hf)
  have k1 := h1
  have lt1 : ∀ x ∈ p1, x.block < W.heap.size := by obtain ⟨m, hm⟩ := k1; exact DataW.trod_lt m _ _ _ hm
  obtain ⟨a1, len1, cap1, rfl⟩ := okWide_slice Tryd.underlying28 (hval 1 28 v1 rfl rfl)
  obtain ⟨hb1, w1, hc1⟩ : len1 ≤ 9223372036854775807 ∧ Bytes W a1 len1 ∧ len1 ≤ cap1 := by
    obtain ⟨fuel, hf⟩ := h1
    exact open_bytesL (by simpa [Value.cells] using hf)
  clear hA0 hval0
  refine (walk a0 cap0 len0 a1 cap1 len1 W w0 hb0 hc0 w1 hb1 hc1 (names_met hL) (maxl_of hSh)).mono fun e W' ⟨he, bel⟩ => ?_
  subst he
  exact ⟨_, rfl, _, _, _, [], _, q, hW', trodAll_mk1 (shut_bool Tryd.underlying4 _), (trodAll_cons_mk (Below.trod laid_out (by kernel_rfl) (of_decide_eq_true (by kernel_rfl)) k0 bel lt0) (trodAll_cons_mk (Below.trod laid_out (by kernel_rfl) (of_decide_eq_true (by kernel_rfl)) k1 bel lt1) trodAll_mk0)), Below.trodVars laid_out bel (by kernel_rfl) hV2, bel.frame _, fun h => by cases h⟩

set_option maxRecDepth 100000 in
theorem lifted (os : Os) (started : os.Started) (H : Type) (enc : TypeId × Value → H) (F : Stop.Interp) :
    ReturnsInHanded {} Tryd.checked os 4 .any ((OpenSpec.ofChange Rows.fnFactTextSpec).preRow enc Tryd.prog Tryd.f4 Rows.fnFactTextRow.domain false Rows.fnFactTextRow.laid) (((OpenSpec.ofChange Rows.fnFactTextSpec).at F).post enc Tryd.prog Tryd.f4 false true false false) := by
  obtain ⟨x, hx⟩ := Option.isSome_iff_exists.1 (show (DataW.whole enc Tryd.prog ((laidWorld os).forCall (fun _ _ => 0) ⟨#[], #[.slice none 0 0, .slice none 0 0], []⟩).memory Tryd.f4.params.toList Rows.fnFactTextSpec.vars false (#[.slice none 0 0, .slice none 0 0] : Array Value).toList 8).isSome = true by kernel_rfl)
  refine returnsInHanded_of_row (C := Tryd.checked) (s := OpenSpec.ofChange Rows.fnFactTextSpec) own_knob started (by kernel_rfl) Tryd.func4
    (witness_row_at (enc := enc) (C := Tryd.checked) false (laidWorld os) #[.slice none 0 0, .slice none 0 0] rfl (by kernel_rfl) (by kernel_rfl) (by kernel_rfl)
      (OpenSpec.preRow_of_cond 8 hx rfl (fun k hk => by cases hk) (by kernel_rfl) (laidMet_of_run' 8 (by kernel_rfl) (by kernel_rfl)))) ?_
  intro W base args ds gs before hval hW _ _ _ hL hSh _
  exact contract H enc W base args ds gs before hval hW hSh hL

theorem said : Rows.FnFactTextSaid :=
  OpenClaim.holds_of_cond 4 Tryd.f4 rfl rfl rfl rfl rfl rfl rfl ⟨rfl, rfl, rfl, rfl, rfl⟩ rfl rfl rfl rfl rfl (by kernel_rfl) Tryd.func4 (by kernel_rfl)
    (of_decide_eq_true (by kernel_rfl)) (by unfold Func.isWrapper; first | (rw [if_pos (by decide +kernel)]; kernel_rfl) | (rw [if_neg (by decide +kernel)]; exact ⟨rfl, rfl⟩))
    (fun os started H enc _ F => by rw [OpenClaim.pre_eq_preRow]; exact lifted os started H enc F)

theorem plain (f : FuncId) (fn : Func) (hf : Tryd.pinned.checked.prog.funcNamed "loop.example/separation/laws.FnFactText" = some f) (hfn : Tryd.pinned.checked.prog.funcs[f]? = some fn) :
    false = Tryd.pinned.checked.prog.looks [] ∧ ∀ (j : Nat) t, fn.params[j]? = some t → Tryd.pinned.checked.prog.wantsStandIn t = false := by
  obtain rfl : f = 4 := Option.some.inj ((show Tryd.prog.funcNamed "loop.example/separation/laws.FnFactText" = some 4 by kernel_rfl).symm.trans hf) |>.symm
  obtain rfl : fn = Tryd.f4 := (Option.some.inj (Tryd.func4.symm.trans hfn)).symm
  refine ⟨by kernel_rfl, fun j t ht => ?_⟩
  rw [Tryd.params4] at ht
  obtain rfl : t = 28 := by simpa using Array.mem_of_getElem? ht
  exact (show Tryd.prog.wantsStandIn 28 = false by kernel_rfl)

/-- The card. -/
theorem proved : Rows.FnFactTextCardSaid :=
  Claim7.holds_tied_plain_at .later [] _ _ _ _ said (fun _ h => by cases h) (by kernel_rfl) (fun _ h => by cases h) fnFactText_row_tie rfl ⟨rfl, rfl⟩ (by kernel_rfl) rfl plain (by kernel_rfl)
#print axioms proved

end Go.Proofs.YtinnopkeoohgeaaDoor.lawFnFactText
