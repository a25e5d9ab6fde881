/- The draw of a state in which an assertion often holds: it is of eight values and eight cells. No conditions but the bounds on what the reader has picked. -/
import Derived.Test.YtlcijjbeikoppaaDrawS
import Derived.Test.YtlcijjbeikoppaaDrawC
import Derived.Test.YtlcijjbeikoppaaSt5
namespace Go.Proofs.Ytlcijjbeikoppaa
open Go.RowKit
set_option linter.unusedVariables false

/-- Eight addresses or nothing. -/
def V8 (v : List Int) : Prop := v.length = 8 ∧ ∀ x ∈ v, 0 ≤ x ∧ x ≤ 8
theorem V8.set {v : List Int} (h : V8 v) {n : Int} (h0 : 0 ≤ n) (h8 : n ≤ 8) (k : Nat) : V8 (v.set k n) :=
  ⟨by rw [List.length_set]; exact h.1, fun x hx => by rcases List.mem_or_eq_of_mem_set hx with hx | rfl; exact h.2 x hx; exact ⟨h0, h8⟩⟩
theorem V8.tval {v : List Int} (h : V8 v) {t : Int} (h0 : 0 ≤ t) (h8 : t ≤ 8) : 0 ≤ Pl.tval v t ∧ Pl.tval v t ≤ 8 := by
  unfold Pl.tval
  split
  · omega
  · have hl : (t - 1).toNat < v.length := by rw [h.1]; omega
    first
      | (rw [List.getElem?_eq_getElem hl]; exact h.2 _ (List.getElem_mem hl))
      | (rw [List.getD_eq_getElem?_getD, List.getElem?_eq_getElem hl]; exact h.2 _ (List.getElem_mem hl))
      | (simp [hl]; exact h.2 _ (List.getElem_mem hl))

theorem OSt.off {w : World} {lo hi : Nat} {A B : Option Addr} {c d : Nat} {s : Pl.St} (k : OSt w lo A B c d s) (b : Bd lo hi (.slice A s.v.length c)) (b' : Bd lo hi (.slice B s.h.length d)) {p : Addr} (hp : hi ≤ p.block) (u : Value) : OSt (w.setCell p u) lo A B c d s :=
  ⟨own_far k.v (fun j hj e => by have := (b j hj).2; omega) u, own_far k.h (fun j hj e => by have := (b' j hj).2; omega) u, k.ap⟩
theorem by_set2 {a w : World} {row : Option Nat} (h : a.grownBy w row) {p : Addr} (hp : a.heap.size ≤ p.block) (u : Value) : a.grownBy (w.setCell p u) row := by_below h (Below.setCell (Below.refl a.heap.size w) hp u) (Nat.le_refl _)

/-- What l4Value leaves of the values. -/
def l4v (v : List Int) (t n : Int) : List Int := if 1 ≤ t then v.set (t - 1).toNat n else v
theorem l4v_len (v : List Int) (t n : Int) : (l4v v t n).length = v.length := by unfold l4v; split <;> simp
theorem l4v_V8 {v : List Int} (h : V8 v) (t : Int) {n : Int} (h0 : 0 ≤ n) (h8 : n ≤ 8) : V8 (l4v v t n) := by
  unfold l4v; split
  · exact h.set h0 h8 _
  · exact h
/-- The first k are addresses or nothing. -/
def VP (k : Nat) (v : List Int) : Prop := v.length = 8 ∧ ∀ j, j < k → ∀ x, v[j]? = some x → 0 ≤ x ∧ x ≤ 8
theorem VP.step {k : Nat} {v : List Int} (h : VP k v) {n : Int} (h0 : 0 ≤ n) (h8 : n ≤ 8) : VP (k + 1) (l4v v ((k : Int) + 1) n) := by
  refine ⟨by rw [l4v_len]; exact h.1, fun j hj x hx => ?_⟩
  unfold l4v at hx
  rw [if_pos (by omega), show ((k : Int) + 1 - 1).toNat = k by omega, List.getElem?_set] at hx
  by_cases e : k = j
  · rw [if_pos e] at hx
    split at hx
    · injection hx with hx; omega
    · cases hx
  · rw [if_neg e] at hx; exact h.2 j (by omega) x hx
theorem VP.all {v : List Int} (h : VP 8 v) : V8 v := ⟨h.1, fun x hx => by
  obtain ⟨j, hj, e⟩ := List.getElem_of_mem hx
  exact h.2 j (by rw [h.1] at hj; exact hj) x (by rw [List.getElem?_eq_getElem hj, e])⟩
theorem by_row {a b c : World} {row row' : Option Nat} (h : a.grownBy b row) (k : b.grownBy c row') (hr : ∀ j, row' = some j → a.heap.size ≤ j) : a.grownBy c row :=
  ⟨k.os.trans h.os, k.tape.trans h.tape, k.output.trans h.output, Nat.le_trans h.size k.size, fun i hi hne => (k.block i (Nat.lt_of_lt_of_le hi h.size) (fun e => by have := hr i e.symm; omega)).trans (h.block i hi hne)⟩
theorem RD.off {w w' : World} {g q : Nat} {row : Option Nat} (h : RD w g q) (b : w.grownBy w' row) (hr : ∀ k, row = some k → g < k) : RD w' g q := by
  obtain ⟨A, n, c, p, h1, h2, h3, h4⟩ := h
  refine ⟨A, n, c, p, (b.block g (Array.getElem?_eq_some_iff.1 h1).1 (fun e => by have := hr g e.symm; omega)).trans h1, h2, fun hn => ?_, h4⟩
  obtain ⟨b0, off, hA, hlt, hc⟩ := h3 hn
  refine ⟨b0, off, hA, hlt, fun i hi => ?_⟩
  obtain ⟨x, hx, hcx⟩ := hc i hi
  exact ⟨x, hx, b.cell hcx (fun e => by have := hr b0 e.symm; omega)⟩

set_option maxHeartbeats 800000 in
theorem l4Value_c (lo : Nat) (A B : Option Addr) (c d : Nat) (v h : List Int) (t n : Int) (w : World) (o : OSt w lo A B c d ⟨v, h⟩) (hv : Hid (v.length = 8)) (h0 : 0 ≤ t) (h8 : t ≤ 8) :
    Calls Try.prog 79 #[sval A B c d ⟨v, h⟩, .int .i64 t, .int .i64 n] w fun e w' => ∃ v', Hid (v' = l4v v t n) ∧ v'.length = v.length ∧ e = .returned (sval A B c d ⟨v', h⟩) ∧ OSt w' lo A B c d ⟨v', h⟩ ∧ w.grownBy w' (Value.slice A v.length c).ownBlock := by
  have y3 := (Box2.new w 43 (.slice A v.length c) (.slice B h.length d)).grow (show Grow _ ((w.alloc (.cells #[.slice A v.length c, .slice B h.length d] 43)).alloc (.cells #[.slice none 0 0, .slice none 0 0] 43)) from Grow.alloc (Grow.refl _) _)
  have y6 := Box2.new (w.alloc (.cells #[.slice A v.length c, .slice B h.length d] 43)) 43 (.slice none 0 0) (.slice none 0 0)
  have G : Grow w ((w.alloc (.cells #[.slice A v.length c, .slice B h.length d] 43)).alloc (.cells #[.slice none 0 0, .slice none 0 0] 43)) := (by repeat (first | exact Grow.refl _ | assumption | refine Grow.alloc ?_ _ | refine Grow.drew ?_ | refine Grow.drewN ?_ _ | refine Grow.trans ?_ (by assumption) | refine Grow.below ?_ (by assumption) (by first | exact Nat.le_refl _ | omega)))
  simp only [World.size_alloc] at y6
  have bd := o.bdv
  have bh := o.bdh
  by_cases h1 : 1 ≤ t
  · obtain ⟨k, rfl⟩ : ∃ k : Nat, t = (k : Int) + 1 := ⟨(t - 1).toNat, by omega⟩
    have hk : k < v.length := by rw [hv.out]; omega
    obtain ⟨g, rfl, hgl, hgs⟩ := own_some o.v (by show 0 < v.length; omega)
    have o1 := o.grow G
    obtain ⟨u0, c0⟩ : ∃ u, ((w.alloc (.cells #[.slice (some ⟨g, 0, none⟩) v.length c, .slice B h.length d] 43)).alloc (.cells #[.slice none 0 0, .slice none 0 0] 43)).cell? ⟨g, k, none⟩ = some u := ⟨_, own_cellAt o1.v (show (v.map (Value.int .i64))[k]? = some (.int .i64 v[k]) by simp [hk])⟩
    have f0 := World.ownsRow.frozenAt o1.v k
    have hne : ¬ g = w.heap.size := by omega
    have hne1 : ¬ g = w.heap.size + 1 := by omega
    have hne2 : ¬ w.heap.size = g := by omega
    have hne3 : ¬ w.heap.size + 1 = g := by omega
    have hk1 : (0 : Int) < (k : Int) + 1 := by omega
    have hk2 : (k : Int) < (v.length : Int) := by omega
    have hk3 : (0 : Int) ≤ (k : Int) := by omega
    obtain ⟨k0, k1, _, _⟩ := y3.facts
    obtain ⟨j0, j1, e0, e1⟩ := y6.facts
    go_enter Try.func79, Try.ntmps79
    go_wp2_with fail
    refine bodyPost_ret (v := .agg #[.slice (some ⟨g, 0, none⟩) v.length c, .slice B h.length d]) (by simp [results, Try.results79, go_sem]) rfl ⟨v.set k n, Lib.hid (by unfold l4v; rw [if_pos (by omega), show ((k : Int) + 1 - 1).toNat = k by omega]), List.length_set .., by rw [sval_setV], ?_, ?_⟩
    · have o2 := o.setV (k := k) n
      exact o2.grow (by repeat (first | exact Grow.refl _ | assumption | refine Grow.alloc ?_ _ | refine Grow.drew ?_ | refine Grow.drewN ?_ _ | refine Grow.trans ?_ (by assumption) | refine Grow.below ?_ (by assumption) (by first | exact Nat.le_refl _ | omega)))
    · exact by_grow (only_setCell (World.grownBy.refl _ _) k _) (by repeat (first | exact Grow.refl _ | assumption | refine Grow.alloc ?_ _ | refine Grow.drew ?_ | refine Grow.drewN ?_ _ | refine Grow.trans ?_ (by assumption) | refine Grow.below ?_ (by assumption) (by first | exact Nat.le_refl _ | omega)))
  · have hk1 : ¬ (0 : Int) < t := by omega
    obtain ⟨k0, k1, _, _⟩ := y3.facts
    obtain ⟨j0, j1, e0, e1⟩ := y6.facts
    go_enter Try.func79, Try.ntmps79
    go_wp2_with fail
    refine bodyPost_ret (v := .agg #[.slice A v.length c, .slice B h.length d]) (by simp [results, Try.results79, go_sem]) rfl ⟨v, Lib.hid (by unfold l4v; rw [if_neg (by omega)]), rfl, rfl, ?_, ?_⟩
    · exact o.grow (by repeat (first | exact Grow.refl _ | assumption | refine Grow.alloc ?_ _ | refine Grow.drew ?_ | refine Grow.drewN ?_ _ | refine Grow.trans ?_ (by assumption) | refine Grow.below ?_ (by assumption) (by first | exact Nat.le_refl _ | omega)))
    · exact (show Grow w _ from (by repeat (first | exact Grow.refl _ | assumption | refine Grow.alloc ?_ _ | refine Grow.drew ?_ | refine Grow.drewN ?_ _ | refine Grow.trans ?_ (by assumption) | refine Grow.below ?_ (by assumption) (by first | exact Nat.le_refl _ | omega)))).by_ _

/-- It answers. -/
def SomeB (e : Ending) : Prop := ∃ b, e = .returned (.bool b)

set_option maxHeartbeats 800000 in
theorem l4Known_c (A B : Option Addr) (n c d : Nat) (v : List Int) (x : Int) (w : World) (hA : Ints w A v) (hv : Hid (V8 v)) :
    Calls Try.prog 81 #[.agg #[.slice A v.length c, .slice B n d], .int .i64 x] w fun e w' => SomeB e ∧ Grow w w' := by
  have y2 := Box2.new w 43 (.slice A v.length c) (.slice B n d)
  have G : Grow w (w.alloc (.cells #[.slice A v.length c, .slice B n d] 43)) := (by repeat (first | exact Grow.refl _ | assumption | refine Grow.alloc ?_ _ | refine Grow.drew ?_ | refine Grow.drewN ?_ _ | refine Grow.trans ?_ (by assumption) | refine Grow.below ?_ (by assumption) (by first | exact Nat.le_refl _ | omega)))
  go_enter Try.func81, Try.ntmps81
  go_wp2_with fail
  generalize w.alloc (.cells #[.slice A v.length c, .slice B n d] 43) = w1 at *
  obtain ⟨k0, k1, _, _⟩ := y2.facts
  go_loopw [5] (fun i wr => ∃ k : Nat, k ≤ v.length ∧ i = .int .i64 k ∧ Grow w wr ∧ Box2 wr w.heap.size 43 (.slice A v.length c) (.slice B n d)) (fun i _ => v.length - (intOf i).toNat)
  case atStart => exact ⟨0, Nat.zero_le _, rfl, G, y2⟩
  case round =>
    clear G y2 k0 k1
    obtain ⟨k, hk, rfl, G, y2⟩ := hrel
    obtain ⟨k0, k1, _, _⟩ := y2.facts
    have hl8 : v.length ≤ 8 := by have := hv.out.1; omega
    by_cases hlt : k < v.length
    · obtain ⟨b, off, rfl, c0⟩ := (hA.grow G).at_ hlt
      have hk2 : (k : Int) < (v.length : Int) := by omega
      have hk3 : (0 : Int) ≤ (k : Int) := by omega
      by_cases hx : v[k] = x
      · have hb : (v[k] == x) = true := by simp [hx]
        clear hx
        go_wp2_with fail
        go_ret
        exact ⟨⟨true, rfl⟩, G⟩
      · have hb : (v[k] == x) = false := by simp [hx]
        clear hx
        go_wp2_with fail
        go_roundw
        case rel => exact ⟨k + 1, by omega, by go_num, G, y2⟩
        case measure => simp [intOf]; omega
    · have hk2 : ¬ (k : Int) < (v.length : Int) := by omega
      go_wp2_with fail
      go_ret
      exact ⟨⟨false, rfl⟩, G⟩

end Go.Proofs.Ytlcijjbeikoppaa
