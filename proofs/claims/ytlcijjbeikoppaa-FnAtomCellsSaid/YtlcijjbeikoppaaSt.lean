/- Words for states in memory; contracts of the tests of addresses and values, of reading a cell, of the laws' own conversions and marks of states. No conditions but Go's own bounds. -/
import Derived.Test.YtlcijjbeikoppaaMark
import Derived.Test.YtlcijjbeikoppaaApp
import Derived.Test.YtlcijjbeikoppaaPlainStates
namespace Go.Proofs.Ytlcijjbeikoppaa
open Go.RowKit
set_option linter.unusedVariables false

/-- A state that can be read. -/
structure Sts (w : World) (A B : Option Addr) (s : Pl.St) : Prop where
  v : Ints w A s.v
  h : Ints w B s.h
theorem Sts.grow {w w' : World} {A B : Option Addr} {s : Pl.St} (k : Sts w A B s) (g : Grow w w') : Sts w' A B s := ⟨k.v.grow g, k.h.grow g⟩
/-- A state in two rows of the call's own. -/
structure OSt (w : World) (lo : Nat) (A B : Option Addr) (c d : Nat) (s : Pl.St) : Prop where
  v : OInts w lo (.slice A s.v.length c) s.v
  h : OInts w lo (.slice B s.h.length d) s.h
  ap : ∀ k, (Value.slice A s.v.length c).ownBlock = some k → (Value.slice B s.h.length d).ownBlock ≠ some k
theorem OSt.st {w : World} {lo : Nat} {A B : Option Addr} {c d : Nat} {s : Pl.St} (k : OSt w lo A B c d s) : Sts w A B s := ⟨OInts.ints rfl k.v, OInts.ints rfl k.h⟩
theorem OSt.grow {w w' : World} {lo : Nat} {A B : Option Addr} {c d : Nat} {s : Pl.St} (k : OSt w lo A B c d s) (g : Grow w w') : OSt w' lo A B c d s := ⟨own_grow k.v g, own_grow k.h g, k.ap⟩
theorem OSt.lo {w : World} {lo lo' : Nat} {A B : Option Addr} {c d : Nat} {s : Pl.St} (k : OSt w lo A B c d s) (h : lo' ≤ lo) : OSt w lo' A B c d s := ⟨own_lo k.v h, own_lo k.h h, k.ap⟩
theorem OSt.emp (w : World) (lo : Nat) : OSt w lo none none 0 0 Pl.emp := ⟨⟨rfl, .inl ⟨rfl, rfl⟩⟩, ⟨rfl, .inl ⟨rfl, rfl⟩⟩, fun k h => by cases h⟩
/-- Behind a step that writes one row alone, neither of these. -/
theorem OSt.kept {w w' : World} {lo : Nat} {A B : Option Addr} {c d : Nat} {s : Pl.St} {row : Option Nat} (k : OSt w lo A B c d s) (g : w.grownBy w' row) (hr : ∀ k, row = some k → k < lo ∨ w.heap.size ≤ k) : OSt w' lo A B c d s :=
  ⟨apart_kept k.v (Grow.refl _) g hr, apart_kept k.h (Grow.refl _) g hr, k.ap⟩
abbrev sval (A B : Option Addr) (c d : Nat) (s : Pl.St) : Value := .agg #[.slice A s.v.length c, .slice B s.h.length d]


theorem isAddr_c (t : Int) (w : World) : Calls Try.prog 84 #[.int .i64 t] w fun e w' => e = .returned (.bool (Pl.adB t)) ∧ w = w' := by
  by_cases h1 : 1 ≤ t
  · by_cases h2 : t ≤ 8
    · have H := Lib.hid ((Pl.adB_iff t).2 ⟨h1, h2⟩)
      go_enter Try.func84, Try.ntmps84
      go_wp2
      go_ret
      exact ⟨by rw [H.out]; rfl, rfl⟩
    · have H := Lib.hid (Bool.eq_false_iff.2 fun h => h2 ((Pl.adB_iff t).1 h).2)
      go_enter Try.func84, Try.ntmps84
      go_wp2
      go_ret
      exact ⟨by rw [H.out]; rfl, rfl⟩
  · have H := Lib.hid (Bool.eq_false_iff.2 fun h => h1 ((Pl.adB_iff t).1 h).1)
    go_enter Try.func84, Try.ntmps84
    go_wp2
    go_ret
    exact ⟨by rw [H.out]; rfl, rfl⟩

theorem isValue_c (t : Int) (w : World) : Calls Try.prog 83 #[.int .i64 t] w fun e w' => e = .returned (.bool (Pl.vlB t)) ∧ w = w' := by
  by_cases h1 : 0 ≤ t
  · by_cases h2 : t ≤ 8
    · have H := Lib.hid ((Pl.vlB_iff t).2 ⟨h1, h2⟩)
      go_enter Try.func83, Try.ntmps83
      go_wp2
      go_ret
      exact ⟨by rw [H.out]; rfl, rfl⟩
    · have H := Lib.hid (Bool.eq_false_iff.2 fun h => h2 ((Pl.vlB_iff t).1 h).2)
      go_enter Try.func83, Try.ntmps83
      go_wp2
      go_ret
      exact ⟨by rw [H.out]; rfl, rfl⟩
  · have H := Lib.hid (Bool.eq_false_iff.2 fun h => h1 ((Pl.vlB_iff t).1 h).1)
    go_enter Try.func83, Try.ntmps83
    go_wp2
    go_ret
    exact ⟨by rw [H.out]; rfl, rfl⟩

theorem l2Addr_c (t : Int) (w : World) : Calls Try.prog 85 #[.int .i64 t] w fun e w' => e = .returned (.bool (Pl.vlB t)) ∧ w = w' := by
  by_cases h1 : 0 ≤ t
  · by_cases h2 : t ≤ 8
    · have H := Lib.hid ((Pl.vlB_iff t).2 ⟨h1, h2⟩)
      go_enter Try.func85, Try.ntmps85
      go_wp2
      go_ret
      exact ⟨by rw [H.out]; rfl, rfl⟩
    · have H := Lib.hid (Bool.eq_false_iff.2 fun h => h2 ((Pl.vlB_iff t).1 h).2)
      go_enter Try.func85, Try.ntmps85
      go_wp2
      go_ret
      exact ⟨by rw [H.out]; rfl, rfl⟩
  · have H := Lib.hid (Bool.eq_false_iff.2 fun h => h1 ((Pl.vlB_iff t).1 h).1)
    go_enter Try.func85, Try.ntmps85
    go_wp2
    go_ret
    exact ⟨by rw [H.out]; rfl, rfl⟩

theorem content8_c (A B : Option Addr) (n c d : Nat) (h : List Int) (a : Int) (w : World) (hB : Ints w B h) (h8 : h.length = 8) :
    Calls Try.prog 56 #[.agg #[.slice A n c, .slice B 8 d], .int .i64 a] w fun e w' => e = .returned (.int .i64 (Pl.cont h a)) ∧ Grow w w' := by
  cases ha : Pl.adB a with
  | false =>
    have H := Lib.hid (Pl.cont_out (h := h) ha)
    have HA := Lib.hid ha
    clear ha
    go_enter Try.func56, Try.ntmps56
    go_wp2_with (go_at_call 84; refine (isAddr_c a _).mono ?_; rintro e w' ⟨rfl, rfl⟩; rw [HA.out])
    go_ret
    exact ⟨by rw [H.out]; rfl, (by repeat (first | exact Grow.refl _ | assumption | refine Grow.alloc ?_ _ | refine Grow.drew ?_ | refine Grow.drewN ?_ _ | refine Grow.trans ?_ (by assumption) | refine Grow.below ?_ (by assumption) (by first | exact Nat.le_refl _ | omega)))⟩
  | true =>
    have hr := (Pl.adB_iff a).1 ha
    obtain ⟨k, rfl⟩ : ∃ k : Nat, a = (k : Int) + 1 := ⟨(a - 1).toNat, by omega⟩
    have hk : k < h.length := by omega
    have H := Lib.hid (Pl.cont_in hk h8)
    have HA := Lib.hid ha
    obtain ⟨b, off, rfl, c0⟩ := (hB.grow (Grow.alloc (Grow.refl w) (.cells #[.slice A n c, .slice B 8 d] 43))).at_ hk
    have H8 := Lib.hid h8
    clear ha h8 hB
    go_enter Try.func56, Try.ntmps56
    go_wp2_with (go_at_call 84; refine (isAddr_c _ _).mono ?_; rintro e w' ⟨rfl, rfl⟩; rw [HA.out])
    go_ret
    exact ⟨by rw [H.out]; rfl, (by repeat (first | exact Grow.refl _ | assumption | refine Grow.alloc ?_ _ | refine Grow.drew ?_ | refine Grow.drewN ?_ _ | refine Grow.trans ?_ (by assumption) | refine Grow.below ?_ (by assumption) (by first | exact Nat.le_refl _ | omega)))⟩

theorem allocated8_c (A B : Option Addr) (n c d : Nat) (h : List Int) (a : Int) (w : World) (hB : Ints w B h) (h8 : h.length = 8) :
    Calls Try.prog 60 #[.agg #[.slice A n c, .slice B 8 d], .int .i64 a] w fun e w' => e = .returned (.bool (Pl.hasB h a)) ∧ Grow w w' := by
  go_enter Try.func60, Try.ntmps60
  go_wp2_with fail
  refine (content8_c A B n c d h a _ (hB.grow (by repeat (first | exact Grow.refl _ | assumption | refine Grow.alloc ?_ _ | refine Grow.drew ?_ | refine Grow.drewN ?_ _ | refine Grow.trans ?_ (by assumption) | refine Grow.below ?_ (by assumption) (by first | exact Nat.le_refl _ | omega)))) h8).mono ?_
  rintro e w1 ⟨rfl, g1⟩
  go_wp2_with fail
  go_ret
  exact ⟨rfl, (by repeat (first | exact Grow.refl _ | assumption | refine Grow.alloc ?_ _ | refine Grow.drew ?_ | refine Grow.drewN ?_ _ | refine Grow.trans ?_ (by assumption) | refine Grow.below ?_ (by assumption) (by first | exact Nat.le_refl _ | omega)))⟩

theorem l2Has8_c (A B : Option Addr) (n c d : Nat) (h : List Int) (a : Int) (w : World) (hB : Ints w B h) (h8 : h.length = 8) :
    Calls Try.prog 87 #[.agg #[.slice A n c, .slice B 8 d], .int .i64 a] w fun e w' => e = .returned (.bool (Pl.hasB h a)) ∧ Grow w w' := by
  cases ha : Pl.adB a with
  | false =>
    have H := Lib.hid (show Pl.hasB h a = false by rw [Pl.hasB_false, Pl.cont_out ha]; omega)
    by_cases h1 : 1 ≤ a
    · have h2 : 8 < a := by
        have : ¬ (1 ≤ a ∧ a ≤ 8) := fun k => by rw [(Pl.adB_iff a).2 k] at ha; cases ha
        omega
      clear ha
      go_enter Try.func87, Try.ntmps87
      go_wp2
      go_ret
      exact ⟨by rw [H.out]; rfl, (by repeat (first | exact Grow.refl _ | assumption | refine Grow.alloc ?_ _ | refine Grow.drew ?_ | refine Grow.drewN ?_ _ | refine Grow.trans ?_ (by assumption) | refine Grow.below ?_ (by assumption) (by first | exact Nat.le_refl _ | omega)))⟩
    · clear ha
      go_enter Try.func87, Try.ntmps87
      go_wp2
      go_ret
      exact ⟨by rw [H.out]; rfl, (by repeat (first | exact Grow.refl _ | assumption | refine Grow.alloc ?_ _ | refine Grow.drew ?_ | refine Grow.drewN ?_ _ | refine Grow.trans ?_ (by assumption) | refine Grow.below ?_ (by assumption) (by first | exact Nat.le_refl _ | omega)))⟩
  | true =>
    have hr := (Pl.adB_iff a).1 ha
    obtain ⟨k, rfl⟩ : ∃ k : Nat, a = (k : Int) + 1 := ⟨(a - 1).toNat, by omega⟩
    have hk : k < h.length := by omega
    have H := Lib.hid (show Pl.hasB h ((k : Int) + 1) = decide (0 ≤ h[k]) by unfold Pl.hasB; rw [Pl.cont_in hk h8])
    obtain ⟨b, off, rfl, c0⟩ := (hB.grow (Grow.alloc (Grow.refl w) (.cells #[.slice A n c, .slice B 8 d] 43))).at_ hk
    have H8 := Lib.hid h8
    clear ha h8 hB
    by_cases h0 : 0 ≤ h[k]
    · have HX := Lib.hid (H.out.trans (decide_eq_true h0))
      go_enter Try.func87, Try.ntmps87
      go_wp2
      go_ret
      exact ⟨by rw [HX.out]; rfl, (by repeat (first | exact Grow.refl _ | assumption | refine Grow.alloc ?_ _ | refine Grow.drew ?_ | refine Grow.drewN ?_ _ | refine Grow.trans ?_ (by assumption) | refine Grow.below ?_ (by assumption) (by first | exact Nat.le_refl _ | omega)))⟩
    · have HX := Lib.hid (H.out.trans (decide_eq_false h0))
      go_enter Try.func87, Try.ntmps87
      go_wp2
      go_ret
      exact ⟨by rw [HX.out]; rfl, (by repeat (first | exact Grow.refl _ | assumption | refine Grow.alloc ?_ _ | refine Grow.drew ?_ | refine Grow.drewN ?_ _ | refine Grow.trans ?_ (by assumption) | refine Grow.below ?_ (by assumption) (by first | exact Nat.le_refl _ | omega)))⟩

theorem content_c (A B : Option Addr) (n c d : Nat) (h : List Int) (a : Int) (w : World) (hB : Ints w B h) (h8 : h.length = 8) :
    Calls Try.prog 56 #[.agg #[.slice A n c, .slice B h.length d], .int .i64 a] w fun e w' => e = .returned (.int .i64 (Pl.cont h a)) ∧ Grow w w' := by
  rw [h8]; exact content8_c A B n c d h a w hB h8

theorem allocated_c (A B : Option Addr) (n c d : Nat) (h : List Int) (a : Int) (w : World) (hB : Ints w B h) (h8 : h.length = 8) :
    Calls Try.prog 60 #[.agg #[.slice A n c, .slice B h.length d], .int .i64 a] w fun e w' => e = .returned (.bool (Pl.hasB h a)) ∧ Grow w w' := by
  rw [h8]; exact allocated8_c A B n c d h a w hB h8

theorem l2Has_c (A B : Option Addr) (n c d : Nat) (h : List Int) (a : Int) (w : World) (hB : Ints w B h) (h8 : h.length = 8) :
    Calls Try.prog 87 #[.agg #[.slice A n c, .slice B h.length d], .int .i64 a] w fun e w' => e = .returned (.bool (Pl.hasB h a)) ∧ Grow w w' := by
  rw [h8]; exact l2Has8_c A B n c d h a w hB h8

/-! ### A box of two cells -/
def Box2 (w : World) (g E : Nat) (x y : Value) : Prop := w.heap[g]? = some (.cells #[x, y] E (0, 0))
theorem Box2.new (w : World) (E : Nat) (x y : Value) : Box2 (w.alloc (.cells #[x, y] E)) w.heap.size E x y := heap_alloc_new w _
theorem Box2.grow {w w' : World} {g E : Nat} {x y : Value} (h : Box2 w g E x y) (k : Grow w w') : Box2 w' g E x y := k.heap h
theorem Box2.lt {w : World} {g E : Nat} {x y : Value} (h : Box2 w g E x y) : g < w.heap.size := (Array.getElem?_eq_some_iff.1 h).1
theorem Box2.facts {w : World} {g E : Nat} {x y : Value} (h : Box2 w g E x y) : w.cell? ⟨g, 0, none⟩ = some x ∧ w.cell? ⟨g, 1, none⟩ = some y ∧ w.frozen? ⟨g, 0, none⟩ = false ∧ w.frozen? ⟨g, 1, none⟩ = false := by
  unfold Box2 at h
  refine ⟨by rw [cell_of_row w g 0 _ _ (0, 0) h]; rfl, by rw [cell_of_row w g 1 _ _ (0, 0) h]; rfl, ?_, ?_⟩ <;> simp [World.frozen?, h]
theorem Box2.set0 {w : World} {g E : Nat} {x y : Value} (h : Box2 w g E x y) (u : Value) : Box2 (w.setCell ⟨g, 0, none⟩ u) g E u y := by
  unfold Box2 at h ⊢; simp [World.setCell, Array.getElem?_modify, h]
theorem Box2.set1 {w : World} {g E : Nat} {x y : Value} (h : Box2 w g E x y) (u : Value) : Box2 (w.setCell ⟨g, 1, none⟩ u) g E x u := by
  unfold Box2 at h ⊢; simp [World.setCell, Array.getElem?_modify, h]
theorem Box2.far {w : World} {g E : Nat} {x y : Value} (h : Box2 w g E x y) {p : Addr} (hp : g ≠ p.block) (u : Value) : Box2 (w.setCell p u) g E x y := (Below.heap_setCell w p u g hp).trans h
theorem Box2.kept {w w' : World} {g E : Nat} {x y : Value} {row : Option Nat} (h : Box2 w g E x y) (hg : w.grownBy w' row) (hne : row ≠ some g) : Box2 w' g E x y := (hg.block g h.lt (fun e => hne e.symm)).trans h
/-- A row of the call's own, behind a store elsewhere. -/
theorem own_far {w : World} {lo E sz n : Nat} {v : Value} {xs : List Value} (h : w.ownsRow lo E sz v n xs) {p : Addr} (hp : ∀ k, v.ownBlock = some k → p.block ≠ k) (u : Value) : (w.setCell p u).ownsRow lo E sz v n xs := by
  obtain ⟨h1, h2⟩ := h
  refine ⟨h1, ?_⟩
  rcases h2 with hn | ⟨g, cap, cur, hv, hb, hgg, rest⟩
  · exact .inl hn
  · refine .inr ⟨g, cap, cur, hv, hb, (Below.heap_setCell w p u g (fun e => ?_)).trans hgg, rest⟩
    exact hp g (by rw [hv]; rfl) e.symm
theorem own_far_lo {w : World} {lo E sz n : Nat} {v : Value} {xs : List Value} (h : w.ownsRow lo E sz v n xs) {p : Addr} (hp : p.block < lo) (u : Value) : (w.setCell p u).ownsRow lo E sz v n xs :=
  own_far h (fun k hk e => by have := own_blk h k hk; omega) u
theorem OSt.far {w : World} {lo : Nat} {A B : Option Addr} {c d : Nat} {s : Pl.St} (k : OSt w lo A B c d s) {p : Addr} (hp : p.block < lo) (u : Value) : OSt (w.setCell p u) lo A B c d s := ⟨own_far_lo k.v hp u, own_far_lo k.h hp u, k.ap⟩
theorem Sts.kept {w w' : World} {A B : Option Addr} {s : Pl.St} {lo : Nat} (k : Sts w A B s) (g : Below lo w w') (hl : w.heap.size ≤ lo) : Sts w' A B s := k.grow (g.mono hl)

end Go.Proofs.Ytlcijjbeikoppaa
