/- Contracts of substitution in assertions, in the program and in the reference. Conditions: the lengths are far from Go's bounds. -/
import Derived.Test.YtlcijjbeikoppaaAs5
import Derived.Test.YtlcijjbeikoppaaBox3
namespace Go.Proofs.Ytlcijjbeikoppaa
open Go.RowKit
set_option linter.unusedVariables false

/-- An assertion that the call made. -/
def RA1 (w : World) (s : Pl.Asr) (e : Ending) (w' : World) : Prop := ∃ A B c d, e = .returned (asval A B c d s) ∧ OAs w' w.heap.size A B c d s ∧ Grow w w'


theorem replaceTerm_c (t x y : Int) (w : World) : Calls Try.prog 73 #[.int .i64 t, .int .i64 x, .int .i64 y] w fun e w' => e = .returned (.int .i64 (Pl.sw t x y)) ∧ Grow w w' := by
  by_cases h : t = x
  · have H := Lib.hid (show Pl.sw t x y = y by unfold Pl.sw; rw [if_pos h])
    have hb : (t == x) = true := by simp [h]
    clear h
    go_enter Try.func73, Try.ntmps73
    go_wp2
    go_ret
    exact ⟨by rw [H.out]; rfl, Grow.refl _⟩
  · have H := Lib.hid (show Pl.sw t x y = t by unfold Pl.sw; rw [if_neg h])
    have hb : (t == x) = false := by simp [h]
    clear h
    go_enter Try.func73, Try.ntmps73
    go_wp2
    go_ret
    exact ⟨by rw [H.out]; rfl, Grow.refl _⟩

theorem l3Swap_c (t x y : Int) (w : World) : Calls Try.prog 68 #[.int .i64 t, .int .i64 x, .int .i64 y] w fun e w' => e = .returned (.int .i64 (Pl.sw t x y)) ∧ Grow w w' := by
  by_cases h : t = x
  · have H := Lib.hid (show Pl.sw t x y = y by unfold Pl.sw; rw [if_pos h])
    have hb : (t == x) = true := by simp [h]
    clear h
    go_enter Try.func68, Try.ntmps68
    go_wp2
    go_ret
    exact ⟨by rw [H.out]; rfl, Grow.refl _⟩
  · have H := Lib.hid (show Pl.sw t x y = t by unfold Pl.sw; rw [if_neg h])
    have hb : (t == x) = false := by simp [h]
    clear h
    go_enter Try.func68, Try.ntmps68
    go_wp2
    go_ret
    exact ⟨by rw [H.out]; rfl, Grow.refl _⟩

/-! ### Rows in which the first elements are changed -/
theorem mix_get {α : Type} {f : α → α} {v : List α} {k : Nat} (h : k < v.length) : ((v.take k).map f ++ v.drop k)[k]? = some v[k] := by
  have hl : ((v.take k).map f).length = k := by simp; omega
  rw [List.getElem?_append_right (by omega), hl, Nat.sub_self, List.drop_eq_getElem_cons h]; rfl
theorem mix_step {α : Type} {f : α → α} {v : List α} {k : Nat} (h : k < v.length) : ((v.take k).map f ++ v.drop k).set k (f v[k]) = (v.take (k + 1)).map f ++ v.drop (k + 1) := by
  have hl : ((v.take k).map f).length = k := by simp; omega
  rw [List.set_append_right _ _ (by omega), hl, Nat.sub_self, List.drop_eq_getElem_cons h, List.set_cons_zero, List.take_succ_eq_append_getElem h, List.map_append]
  simp
theorem mix_len {α : Type} {f : α → α} {v : List α} {k : Nat} (h : k ≤ v.length) : ((v.take k).map f ++ v.drop k).length = v.length := by
  simp; omega
theorem fcells_set : ∀ (u : List Pl.Fct) (k : Nat) (h : k < u.length) (f' : Pl.Fct), f'.e = u[k].e → ((u.flatMap fcells).set (k * 3 + 1) (.int .i64 f'.a)).set (k * 3 + 2) (.int .i64 f'.b) = (u.set k f').flatMap fcells
  | [], k, h, _, _ => by simp at h
  | g :: u, 0, _, f', he => by
    simp only [List.getElem_cons_zero] at he
    simp [fcells, he]
  | g :: u, k + 1, h, f', he => by
    have ih := fcells_set u k (by simpa using h) f' (by simpa using he)
    rw [List.flatMap_cons, List.set_cons_succ, List.flatMap_cons, ← ih]
    rw [List.set_append_right _ _ (by simp [fcells]; omega), List.set_append_right _ _ (by simp [fcells]; omega)]
    simp only [fcells, List.length_cons, List.length_nil]
    rw [show (k + 1) * 3 + 1 - (0 + 1 + 1 + 1) = k * 3 + 1 from by omega, show (k + 1) * 3 + 2 - (0 + 1 + 1 + 1) = k * 3 + 2 from by omega]
theorem xcells_set : ∀ (u : List Pl.Atm) (k : Nat) (h : k < u.length) (f' : Pl.Atm), f'.k = u[k].k → ((u.flatMap xcells).set (k * 3 + 1) (.int .i64 f'.a)).set (k * 3 + 2) (.int .i64 f'.b) = (u.set k f').flatMap xcells
  | [], k, h, _, _ => by simp at h
  | g :: u, 0, _, f', he => by
    simp only [List.getElem_cons_zero] at he
    simp [xcells, he]
  | g :: u, k + 1, h, f', he => by
    have ih := xcells_set u k (by simpa using h) f' (by simpa using he)
    rw [List.flatMap_cons, List.set_cons_succ, List.flatMap_cons, ← ih]
    rw [List.set_append_right _ _ (by simp [xcells]; omega), List.set_append_right _ _ (by simp [xcells]; omega)]
    simp only [xcells, List.length_cons, List.length_nil]
    rw [show (k + 1) * 3 + 1 - (0 + 1 + 1 + 1) = k * 3 + 1 from by omega, show (k + 1) * 3 + 2 - (0 + 1 + 1 + 1) = k * 3 + 2 from by omega]


theorem cell_in {w : World} {lo E n c g : Nat} {xs : List Value} (h : w.ownsRow lo E 3 (.slice (some ⟨g, 0, none⟩) n c) n xs) {o : Nat} (ho : o < n * 3) : ∃ z, w.cell? ⟨g, o, none⟩ = some z := by
  have hl := h.1
  exact ⟨_, own_cellAt h (List.getElem?_eq_getElem (by omega))⟩


set_option maxHeartbeats 3200000 in
theorem replaceIn_c (A B : Option Addr) (c d : Nat) (s : Pl.Asr) (x y : Int) (w : World) (hS : Asrs w A B s) (h1 : s.f.length ≤ 4194304) (h2 : s.a.length ≤ 4194304) :
    Calls Try.prog 35 #[asval A B c d s, .int .i64 x, .int .i64 y] w (RA1 w (Pl.sbs s x y)) := by
  obtain ⟨v, h⟩ := s
  replace h1 : v.length ≤ 4194304 := h1
  replace h2 : h.length ≤ 4194304 := h2
  have y1 := Box2.new (w.alloc (.cells #[.slice A v.length c, .slice B h.length d] 30)) 30 (.slice none 0 0) (.slice none 0 0)
  simp only [World.size_alloc] at y1
  go_enter Try.func35, Try.ntmps35
  go_wp2_with fail
  refine (copyAssertion_c A B c d ⟨v, h⟩ _ (hS.grow (by repeat (first | exact Grow.refl _ | assumption | refine Grow.alloc ?_ _ | refine Grow.drew ?_ | refine Grow.drewN ?_ _ | refine Grow.trans ?_ (by assumption) | refine Grow.below ?_ (by assumption) (by first | exact Nat.le_refl _ | omega)))) (by show v.length ≤ _; omega) (by show h.length ≤ _; omega)).mono ?_
  rintro e w1 ⟨A1, B1, c1, d1, rfl, o1, g1⟩
  have G : Grow w w1 := (by repeat (first | exact Grow.refl _ | assumption | refine Grow.alloc ?_ _ | refine Grow.drew ?_ | refine Grow.drewN ?_ _ | refine Grow.trans ?_ (by assumption) | refine Grow.below ?_ (by assumption) (by first | exact Nat.le_refl _ | omega)))
  have hz1 := g1.le
  simp only [World.size_alloc] at hz1 o1
  replace y1 := y1.grow g1
  have bnd : Bd (w.heap.size + 1 + 1) w1.heap.size (.slice A1 v.length c1) := o1.bdv
  have bndh : Bd (w.heap.size + 1 + 1) w1.heap.size (.slice B1 h.length d1) := o1.bdh
  have hap0 : ∀ k, (Value.slice A1 v.length c1).ownBlock = some k → (Value.slice B1 h.length d1).ownBlock ≠ some k := o1.ap
  have oF : w1.ownsRow (w.heap.size + 1 + 1) 75 3 (.slice A1 v.length c1) v.length (v.flatMap fcells) := o1.v
  have oH : w1.ownsRow (w.heap.size + 1 + 1) 45 3 (.slice B1 h.length d1) h.length (h.flatMap xcells) := o1.h
  clear g1 hS o1
  have y7 := Box2.new w1 30 (.slice A1 v.length c1) (.slice B1 h.length d1)
  have q : Grow w1 (w1.alloc (.cells #[.slice A1 v.length c1, .slice B1 h.length d1] 30)) := (by repeat (first | exact Grow.refl _ | assumption | refine Grow.alloc ?_ _ | refine Grow.drew ?_ | refine Grow.drewN ?_ _ | refine Grow.trans ?_ (by assumption) | refine Grow.below ?_ (by assumption) (by first | exact Nat.le_refl _ | omega)))
  replace y1 := y1.grow q
  replace oF := own_grow oF q
  replace oH := own_grow oH q
  replace G := G.trans q
  have hz2 := y7.lt
  clear q
  go_wp2_with fail
  generalize w1.alloc (.cells #[.slice A1 v.length c1, .slice B1 h.length d1] 30) = w2 at *
  go_loopw [17] (fun i wr => ∃ (k : Nat) (u : List Pl.Fct), k ≤ v.length ∧ i = .int .i64 k ∧ Hid (u = (v.take k).map (Pl.sbF x y) ++ v.drop k) ∧ Grow w wr ∧ w1.heap.size < wr.heap.size ∧ Box2 wr (w.heap.size + 1) 30 (.slice none 0 0) (.slice none 0 0) ∧ Box2 wr w1.heap.size 30 (.slice A1 v.length c1) (.slice B1 h.length d1) ∧ wr.ownsRow (w.heap.size + 1 + 1) 75 3 (.slice A1 v.length c1) v.length (u.flatMap fcells) ∧ wr.ownsRow (w.heap.size + 1 + 1) 45 3 (.slice B1 h.length d1) h.length (h.flatMap xcells)) (fun i _ => v.length - (intOf i).toNat)
  case atStart => exact ⟨0, v, Nat.zero_le _, rfl, Lib.hid (by simp), G, hz2, y1, y7, oF, oH⟩
  case round =>
    clear G y1 y7 oF oH hz2
    obtain ⟨k, u, hk, rfl, HU, G, hz2, y1, y7, oF, oH⟩ := hrel
    by_cases hlt : k < v.length
    · have hap : ∀ g, A1 = some ⟨g, 0, none⟩ → ∀ j, (Value.slice B1 h.length d1).ownBlock = some j → g ≠ j := fun g hg j hj e => hap0 g (by rw [hg]; rfl) (by rw [hj, e])
      obtain ⟨gA, rfl, hgl, hgs⟩ := own_some oF (by omega)
      have hgx := bnd gA rfl
      have HG := Lib.hid (show u[k]? = some v[k] by rw [HU.out]; exact mix_get hlt)
      obtain ⟨e0, e1, e2⟩ := fcells_get u k (by rw [HU.out, mix_len (by omega)]; exact hlt)
      rw [show u[k]'(by rw [HU.out, mix_len (by omega)]; exact hlt) = v[k] from Option.some.inj ((List.getElem?_eq_getElem _).symm.trans HG.out)] at e0 e1 e2
      have q0 := own_cellAt oF e0
      have q1 := own_cellAt oF e1
      have q2 := own_cellAt oF e2
      have hk2 : (k : Int) < (v.length : Int) := by omega
      have hk3 : (0 : Int) ≤ (k : Int) := by omega
      clear e0 e1 e2 HG
      go_wp2_with fail
      clear q0 q1 q2
      have y9 := Box3.new wr 75 (.bool v[k].e) (.int .i64 v[k].a) (.int .i64 v[k].b)
      have q : Grow wr (wr.alloc (.cells #[.bool v[k].e, .int .i64 v[k].a, .int .i64 v[k].b] 75)) := (by repeat (first | exact Grow.refl _ | assumption | refine Grow.alloc ?_ _ | refine Grow.drew ?_ | refine Grow.drewN ?_ _ | refine Grow.trans ?_ (by assumption) | refine Grow.below ?_ (by assumption) (by first | exact Nat.le_refl _ | omega)))
      replace y1 := y1.grow q
      replace y7 := y7.grow q
      replace oF := own_grow oF q
      replace oH := own_grow oH q
      replace G := G.trans q
      have hz9 := y9.lt
      clear q
      generalize wr.alloc (.cells #[.bool v[k].e, .int .i64 v[k].a, .int .i64 v[k].b] 75) = wa at *
      obtain ⟨k0, k1, _, _⟩ := y7.facts
      obtain ⟨r0, r1, r2⟩ := y9.facts
      go_region_held3 (fun W => W.cell? ⟨w1.heap.size, 0, none⟩ = some (.slice (some ⟨gA, 0, none⟩) v.length c1) ∧ W.cell? ⟨wr.heap.size, 1, none⟩ = some (.int .i64 (v[k].a)))
        (first | go_keep | (go_split_ands; exact ⟨g4.cell (by assumption), g4.cell (by assumption)⟩) | (go_split_ands; exact ⟨(World.cell?_setCell_other _ _ _ _ (by intro e; injection e with e; exact absurd e (by omega))).trans (by assumption), (World.cell?_setCell_other _ _ _ _ (by intro e; injection e with e; exact absurd e (by omega))).trans (by assumption)⟩))
        ((go_at_call 73; refine (replaceTerm_c (v[k].a) x y _).mono ?_; rintro e w4 ⟨rfl, g4⟩; have o4 := own_grow oF (show Grow wa w4 from (by repeat (first | exact Grow.refl _ | assumption | refine Grow.alloc ?_ _ | refine Grow.drew ?_ | refine Grow.drewN ?_ _ | refine Grow.trans ?_ (by assumption) | refine Grow.below ?_ (by assumption) (by first | exact Nat.le_refl _ | omega)))); obtain ⟨z0, c0⟩ : ∃ z, w4.cell? ⟨gA, k * 3 + 1, none⟩ = some z := (cell_in o4 (by have := hlt; omega)); have f0 := World.ownsRow.frozenAt o4 (k * 3 + 1)))
      have q : Grow wa w4 := (by repeat (first | exact Grow.refl _ | assumption | refine Grow.alloc ?_ _ | refine Grow.drew ?_ | refine Grow.drewN ?_ _ | refine Grow.trans ?_ (by assumption) | refine Grow.below ?_ (by assumption) (by first | exact Nat.le_refl _ | omega)))
      have o5 := own_set o4 (k * 3 + 1) (.int .i64 (Pl.sw v[k].a x y))
      replace y1 := (y1.grow q).far (p := ⟨gA, k * 3 + 1, none⟩) (by show w.heap.size + 1 ≠ gA; omega) (.int .i64 (Pl.sw v[k].a x y))
      replace y7 := (y7.grow q).far (p := ⟨gA, k * 3 + 1, none⟩) (by show w1.heap.size ≠ gA; omega) (.int .i64 (Pl.sw v[k].a x y))
      replace y9 := (y9.grow q).far (p := ⟨gA, k * 3 + 1, none⟩) (by show wr.heap.size ≠ gA; omega) (.int .i64 (Pl.sw v[k].a x y))
      replace oH := own_far (p := ⟨gA, k * 3 + 1, none⟩) (own_grow oH q) (fun j hj e => hap gA rfl j hj e) (.int .i64 (Pl.sw v[k].a x y))
      replace G := (G.trans q).setCell (p := ⟨gA, k * 3 + 1, none⟩) (by show w.heap.size ≤ gA; omega) (.int .i64 (Pl.sw v[k].a x y))
      clear k0 k1 r0 r1 r2 q g4 c0 f0 o4 oF z0
      have oF := o5
      clear o5
      go_wp2_with fail
      generalize w4.setCell ⟨gA, k * 3 + 1, none⟩ (.int .i64 (Pl.sw v[k].a x y)) = wb at *
      obtain ⟨k0, k1, _, _⟩ := y7.facts
      obtain ⟨r0, r1, r2⟩ := y9.facts
      go_region_held3 (fun W => W.cell? ⟨w1.heap.size, 0, none⟩ = some (.slice (some ⟨gA, 0, none⟩) v.length c1) ∧ W.cell? ⟨wr.heap.size, 2, none⟩ = some (.int .i64 (v[k].b)))
        (first | go_keep | (go_split_ands; exact ⟨g6.cell (by assumption), g6.cell (by assumption)⟩) | (go_split_ands; exact ⟨(World.cell?_setCell_other _ _ _ _ (by intro e; injection e with e; exact absurd e (by omega))).trans (by assumption), (World.cell?_setCell_other _ _ _ _ (by intro e; injection e with e; exact absurd e (by omega))).trans (by assumption)⟩))
        ((go_at_call 73; refine (replaceTerm_c (v[k].b) x y _).mono ?_; rintro e w6 ⟨rfl, g6⟩; have o6 := own_grow oF (show Grow wb w6 from (by repeat (first | exact Grow.refl _ | assumption | refine Grow.alloc ?_ _ | refine Grow.drew ?_ | refine Grow.drewN ?_ _ | refine Grow.trans ?_ (by assumption) | refine Grow.below ?_ (by assumption) (by first | exact Nat.le_refl _ | omega)))); obtain ⟨z0, c0⟩ : ∃ z, w6.cell? ⟨gA, k * 3 + 2, none⟩ = some z := (cell_in o6 (by have := hlt; omega)); have f0 := World.ownsRow.frozenAt o6 (k * 3 + 2)))
      have q : Grow wb w6 := (by repeat (first | exact Grow.refl _ | assumption | refine Grow.alloc ?_ _ | refine Grow.drew ?_ | refine Grow.drewN ?_ _ | refine Grow.trans ?_ (by assumption) | refine Grow.below ?_ (by assumption) (by first | exact Nat.le_refl _ | omega)))
      have o7 := own_set o6 (k * 3 + 2) (.int .i64 (Pl.sw v[k].b x y))
      have hst := fcells_set u k (by rw [HU.out, mix_len (by omega)]; exact hlt) (Pl.sbF x y v[k]) (by
        rw [show u[k]'(by rw [HU.out, mix_len (by omega)]; exact hlt) = v[k] from Option.some.inj ((List.getElem?_eq_getElem _).symm.trans (by rw [HU.out]; exact mix_get hlt))]; rfl)
      rw [show ((u.flatMap fcells).set (k * 3 + 1) (.int .i64 (Pl.sw v[k].a x y))).set (k * 3 + 2) (.int .i64 (Pl.sw v[k].b x y)) = (u.set k (Pl.sbF x y v[k])).flatMap fcells from hst] at o7
      clear hst
      have HV := Lib.hid (show u.set k (Pl.sbF x y v[k]) = (v.take (k + 1)).map (Pl.sbF x y) ++ v.drop (k + 1) by rw [HU.out]; exact mix_step hlt)
      replace y1 := (y1.grow q).far (p := ⟨gA, k * 3 + 2, none⟩) (by show w.heap.size + 1 ≠ gA; omega) (.int .i64 (Pl.sw v[k].b x y))
      replace y7 := (y7.grow q).far (p := ⟨gA, k * 3 + 2, none⟩) (by show w1.heap.size ≠ gA; omega) (.int .i64 (Pl.sw v[k].b x y))
      replace oH := own_far (p := ⟨gA, k * 3 + 2, none⟩) (own_grow oH q) (fun j hj e => hap gA rfl j hj e) (.int .i64 (Pl.sw v[k].b x y))
      replace G := (G.trans q).setCell (p := ⟨gA, k * 3 + 2, none⟩) (by show w.heap.size ≤ gA; omega) (.int .i64 (Pl.sw v[k].b x y))
      clear k0 k1 r0 r1 r2 q g6 y9 o6
      have hz3 := y7.lt
      go_wp2
      go_roundw
      case rel => exact ⟨k + 1, _, by omega, by go_num, HV, G, hz3, y1, y7, o7, oH⟩
      case measure => simp [intOf]; omega
    · have hk' : k = v.length := by omega
      have HF := Lib.hid (show u = v.map (Pl.sbF x y) by rw [HU.out, hk']; simp)
      rw [HF.out] at oF
      obtain ⟨k0, k1, _, _⟩ := y7.facts
      clear HU hk'
      go_wp2_with fail
      clear k0 k1
      obtain ⟨fu, hfu⟩ : ∃ fu, fu = v.map (Pl.sbF x y) := ⟨_, rfl⟩
      rw [← hfu] at oF
      have HFU := Lib.hid hfu
      clear hfu HF
      go_loopw [46] (fun i wr => ∃ (k : Nat) (u : List Pl.Atm), k ≤ h.length ∧ i = .int .i64 k ∧ Hid (u = (h.take k).map (Pl.sbA x y) ++ h.drop k) ∧ Grow w wr ∧ w1.heap.size < wr.heap.size ∧ Box2 wr (w.heap.size + 1) 30 (.slice none 0 0) (.slice none 0 0) ∧ Box2 wr w1.heap.size 30 (.slice A1 v.length c1) (.slice B1 h.length d1) ∧ wr.ownsRow (w.heap.size + 1 + 1) 45 3 (.slice B1 h.length d1) h.length (u.flatMap xcells) ∧ wr.ownsRow (w.heap.size + 1 + 1) 75 3 (.slice A1 v.length c1) v.length (fu.flatMap fcells)) (fun i _ => h.length - (intOf i).toNat)
      case atStart => exact ⟨0, h, Nat.zero_le _, rfl, Lib.hid (by simp), G, hz2, y1, y7, oH, oF⟩
      case round =>
        clear G y1 y7 oF oH hz2 hlt hk
        obtain ⟨k, u, hk, rfl, HU, G, hz2, y1, y7, oF, oH⟩ := hrel
        by_cases hlt : k < h.length
        · have hap : ∀ g, B1 = some ⟨g, 0, none⟩ → ∀ j, (Value.slice A1 v.length c1).ownBlock = some j → g ≠ j := fun g hg j hj e => hap0 j hj (by rw [hg, ← e]; rfl)
          clear bnd
          have bnd := bndh
          obtain ⟨gA, rfl, hgl, hgs⟩ := own_some oF (by omega)
          have hgx := bnd gA rfl
          have HG := Lib.hid (show u[k]? = some h[k] by rw [HU.out]; exact mix_get hlt)
          obtain ⟨e0, e1, e2⟩ := xcells_get u k (by rw [HU.out, mix_len (by omega)]; exact hlt)
          rw [show u[k]'(by rw [HU.out, mix_len (by omega)]; exact hlt) = h[k] from Option.some.inj ((List.getElem?_eq_getElem _).symm.trans HG.out)] at e0 e1 e2
          have q0 := own_cellAt oF e0
          have q1 := own_cellAt oF e1
          have q2 := own_cellAt oF e2
          have hk2 : (k : Int) < (h.length : Int) := by omega
          have hk3 : (0 : Int) ≤ (k : Int) := by omega
          clear e0 e1 e2 HG
          go_wp2_with fail
          clear q0 q1 q2
          have y9 := Box3.new wr 45 (.int .i64 h[k].k) (.int .i64 h[k].a) (.int .i64 h[k].b)
          have q : Grow wr (wr.alloc (.cells #[.int .i64 h[k].k, .int .i64 h[k].a, .int .i64 h[k].b] 45)) := (by repeat (first | exact Grow.refl _ | assumption | refine Grow.alloc ?_ _ | refine Grow.drew ?_ | refine Grow.drewN ?_ _ | refine Grow.trans ?_ (by assumption) | refine Grow.below ?_ (by assumption) (by first | exact Nat.le_refl _ | omega)))
          replace y1 := y1.grow q
          replace y7 := y7.grow q
          replace oF := own_grow oF q
          replace oH := own_grow oH q
          replace G := G.trans q
          have hz9 := y9.lt
          clear q
          generalize wr.alloc (.cells #[.int .i64 h[k].k, .int .i64 h[k].a, .int .i64 h[k].b] 45) = wa at *
          obtain ⟨k0, k1, _, _⟩ := y7.facts
          obtain ⟨r0, r1, r2⟩ := y9.facts
          go_region_held3 (fun W => W.cell? ⟨w1.heap.size, 1, none⟩ = some (.slice (some ⟨gA, 0, none⟩) h.length d1) ∧ W.cell? ⟨wr.heap.size, 1, none⟩ = some (.int .i64 (h[k].a)))
            (first | go_keep | (go_split_ands; exact ⟨g4.cell (by assumption), g4.cell (by assumption)⟩) | (go_split_ands; exact ⟨(World.cell?_setCell_other _ _ _ _ (by intro e; injection e with e; exact absurd e (by omega))).trans (by assumption), (World.cell?_setCell_other _ _ _ _ (by intro e; injection e with e; exact absurd e (by omega))).trans (by assumption)⟩))
            ((go_at_call 73; refine (replaceTerm_c (h[k].a) x y _).mono ?_; rintro e w4 ⟨rfl, g4⟩; have o4 := own_grow oF (show Grow wa w4 from (by repeat (first | exact Grow.refl _ | assumption | refine Grow.alloc ?_ _ | refine Grow.drew ?_ | refine Grow.drewN ?_ _ | refine Grow.trans ?_ (by assumption) | refine Grow.below ?_ (by assumption) (by first | exact Nat.le_refl _ | omega)))); obtain ⟨z0, c0⟩ : ∃ z, w4.cell? ⟨gA, k * 3 + 1, none⟩ = some z := (cell_in o4 (by have := hlt; omega)); have f0 := World.ownsRow.frozenAt o4 (k * 3 + 1)))
          have q : Grow wa w4 := (by repeat (first | exact Grow.refl _ | assumption | refine Grow.alloc ?_ _ | refine Grow.drew ?_ | refine Grow.drewN ?_ _ | refine Grow.trans ?_ (by assumption) | refine Grow.below ?_ (by assumption) (by first | exact Nat.le_refl _ | omega)))
          have o5 := own_set o4 (k * 3 + 1) (.int .i64 (Pl.sw h[k].a x y))
          replace y1 := (y1.grow q).far (p := ⟨gA, k * 3 + 1, none⟩) (by show w.heap.size + 1 ≠ gA; omega) (.int .i64 (Pl.sw h[k].a x y))
          replace y7 := (y7.grow q).far (p := ⟨gA, k * 3 + 1, none⟩) (by show w1.heap.size ≠ gA; omega) (.int .i64 (Pl.sw h[k].a x y))
          replace y9 := (y9.grow q).far (p := ⟨gA, k * 3 + 1, none⟩) (by show wr.heap.size ≠ gA; omega) (.int .i64 (Pl.sw h[k].a x y))
          replace oH := own_far (p := ⟨gA, k * 3 + 1, none⟩) (own_grow oH q) (fun j hj e => hap gA rfl j hj e) (.int .i64 (Pl.sw h[k].a x y))
          replace G := (G.trans q).setCell (p := ⟨gA, k * 3 + 1, none⟩) (by show w.heap.size ≤ gA; omega) (.int .i64 (Pl.sw h[k].a x y))
          clear k0 k1 r0 r1 r2 q g4 c0 f0 o4 oF z0
          have oF := o5
          clear o5
          go_wp2_with fail
          generalize w4.setCell ⟨gA, k * 3 + 1, none⟩ (.int .i64 (Pl.sw h[k].a x y)) = wb at *
          obtain ⟨k0, k1, _, _⟩ := y7.facts
          obtain ⟨r0, r1, r2⟩ := y9.facts
          go_region_held3 (fun W => W.cell? ⟨w1.heap.size, 1, none⟩ = some (.slice (some ⟨gA, 0, none⟩) h.length d1) ∧ W.cell? ⟨wr.heap.size, 2, none⟩ = some (.int .i64 (h[k].b)))
            (first | go_keep | (go_split_ands; exact ⟨g6.cell (by assumption), g6.cell (by assumption)⟩) | (go_split_ands; exact ⟨(World.cell?_setCell_other _ _ _ _ (by intro e; injection e with e; exact absurd e (by omega))).trans (by assumption), (World.cell?_setCell_other _ _ _ _ (by intro e; injection e with e; exact absurd e (by omega))).trans (by assumption)⟩))
            ((go_at_call 73; refine (replaceTerm_c (h[k].b) x y _).mono ?_; rintro e w6 ⟨rfl, g6⟩; have o6 := own_grow oF (show Grow wb w6 from (by repeat (first | exact Grow.refl _ | assumption | refine Grow.alloc ?_ _ | refine Grow.drew ?_ | refine Grow.drewN ?_ _ | refine Grow.trans ?_ (by assumption) | refine Grow.below ?_ (by assumption) (by first | exact Nat.le_refl _ | omega)))); obtain ⟨z0, c0⟩ : ∃ z, w6.cell? ⟨gA, k * 3 + 2, none⟩ = some z := (cell_in o6 (by have := hlt; omega)); have f0 := World.ownsRow.frozenAt o6 (k * 3 + 2)))
          have q : Grow wb w6 := (by repeat (first | exact Grow.refl _ | assumption | refine Grow.alloc ?_ _ | refine Grow.drew ?_ | refine Grow.drewN ?_ _ | refine Grow.trans ?_ (by assumption) | refine Grow.below ?_ (by assumption) (by first | exact Nat.le_refl _ | omega)))
          have o7 := own_set o6 (k * 3 + 2) (.int .i64 (Pl.sw h[k].b x y))
          have hst := xcells_set u k (by rw [HU.out, mix_len (by omega)]; exact hlt) (Pl.sbA x y h[k]) (by
            rw [show u[k]'(by rw [HU.out, mix_len (by omega)]; exact hlt) = h[k] from Option.some.inj ((List.getElem?_eq_getElem _).symm.trans (by rw [HU.out]; exact mix_get hlt))]; rfl)
          rw [show ((u.flatMap xcells).set (k * 3 + 1) (.int .i64 (Pl.sw h[k].a x y))).set (k * 3 + 2) (.int .i64 (Pl.sw h[k].b x y)) = (u.set k (Pl.sbA x y h[k])).flatMap xcells from hst] at o7
          clear hst
          have HV := Lib.hid (show u.set k (Pl.sbA x y h[k]) = (h.take (k + 1)).map (Pl.sbA x y) ++ h.drop (k + 1) by rw [HU.out]; exact mix_step hlt)
          replace y1 := (y1.grow q).far (p := ⟨gA, k * 3 + 2, none⟩) (by show w.heap.size + 1 ≠ gA; omega) (.int .i64 (Pl.sw h[k].b x y))
          replace y7 := (y7.grow q).far (p := ⟨gA, k * 3 + 2, none⟩) (by show w1.heap.size ≠ gA; omega) (.int .i64 (Pl.sw h[k].b x y))
          replace oH := own_far (p := ⟨gA, k * 3 + 2, none⟩) (own_grow oH q) (fun j hj e => hap gA rfl j hj e) (.int .i64 (Pl.sw h[k].b x y))
          replace G := (G.trans q).setCell (p := ⟨gA, k * 3 + 2, none⟩) (by show w.heap.size ≤ gA; omega) (.int .i64 (Pl.sw h[k].b x y))
          clear k0 k1 r0 r1 r2 q g6 y9 o6
          have hz3 := y7.lt
          go_wp2
          go_roundw
          case rel => exact ⟨k + 1, _, by omega, by go_num, HV, G, hz3, y1, y7, o7, oH⟩
          case measure => simp [intOf]; omega
        · have hk' : k = h.length := by omega
          have HH := Lib.hid (show u = h.map (Pl.sbA x y) by rw [HU.out, hk']; simp)
          rw [HH.out] at oF
          rw [HFU.out] at oH
          obtain ⟨k0, k1, _, _⟩ := y7.facts
          obtain ⟨j0, j1, e0, e1⟩ := y1.facts
          clear HU hk' HH HFU
          go_wp2_with fail
          refine bodyPost_ret (v := .agg #[.slice A1 v.length c1, .slice B1 h.length d1]) (by simp [results, Try.results35, go_sem, j0, j1]) rfl ⟨A1, B1, c1, d1, by simp [Pl.sbs], ⟨?_, ?_, ?_⟩, ?_⟩
          · show World.ownsRow _ _ _ _ (.slice _ (v.map (Pl.sbF x y)).length _) (v.map (Pl.sbF x y)).length ((v.map (Pl.sbF x y)).flatMap fcells)
            rw [List.length_map]
            exact own_lo (own_far_lo (own_far_lo oH (by show w.heap.size + 1 < _; omega) _) (by show w.heap.size + 1 < _; omega) _) (by omega)
          · show World.ownsRow _ _ _ _ (.slice _ (h.map (Pl.sbA x y)).length _) (h.map (Pl.sbA x y)).length ((h.map (Pl.sbA x y)).flatMap xcells)
            rw [List.length_map]
            exact own_lo (own_far_lo (own_far_lo oF (by show w.heap.size + 1 < _; omega) _) (by show w.heap.size + 1 < _; omega) _) (by omega)
          · intro k h1 h2
            exact hap0 k (by simpa [Pl.sbs] using h1) (by simpa [Pl.sbs] using h2)
          · exact (G.setCell (by show w.heap.size ≤ w.heap.size + 1; omega) _).setCell (by show w.heap.size ≤ w.heap.size + 1; omega) _

theorem ofacts_snc {w : World} {lo c : Nat} {A : Option Addr} {l : List Pl.Fct} {f : Pl.Fct} (h : w.ownsRow lo 75 3 (.slice A (l.length + 1) c) (l.length + 1) ((l ++ [f]).flatMap fcells)) : OFacts w lo (.slice A (l ++ [f]).length c) (l ++ [f]) := by
  show World.ownsRow _ _ _ _ (.slice _ (l ++ [f]).length _) (l ++ [f]).length _
  rw [List.length_append]; exact h
theorem oatoms_snc {w : World} {lo c : Nat} {A : Option Addr} {l : List Pl.Atm} {f : Pl.Atm} (h : w.ownsRow lo 45 3 (.slice A (l.length + 1) c) (l.length + 1) ((l ++ [f]).flatMap xcells)) : OAtoms w lo (.slice A (l ++ [f]).length c) (l ++ [f]) := by
  show World.ownsRow _ _ _ _ (.slice _ (l ++ [f]).length _) (l ++ [f]).length _
  rw [List.length_append]; exact h

end Go.Proofs.Ytlcijjbeikoppaa
