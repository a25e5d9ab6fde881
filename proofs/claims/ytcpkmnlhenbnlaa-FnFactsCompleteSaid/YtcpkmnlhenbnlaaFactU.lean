/- Contracts of the union-find structure of the program: find, join, newTermUnion, allows. Conditions: the facts are valid, the lengths are far from Go's bounds. -/
import Derived.Test.YtcpkmnlhenbnlaaFactC
namespace Go.Proofs.Ytcpkmnlhenbnlaa
open Go.RowKit
set_option linter.unusedVariables false

/-- The structure u stands for the classes c. -/
structure UFC (u c : Nat → Nat) : Prop where
  le : ∀ t, t ≤ 8 → u t ≤ t
  cls : ∀ t, t ≤ 8 → c (u t) = c t
  root : ∀ t, t ≤ 8 → u t = t → c t = t
theorem ufc_id : UFC id id := ⟨fun _ _ => Nat.le_refl _, fun _ _ => rfl, fun _ _ _ => rfl⟩
def jn (u c : Nat → Nat) (x y : Nat) : Nat → Nat := fun t => if t = max (c x) (c y) then min (c x) (c y) else u t
theorem ufc_join {u c : Nat → Nat} (hg : Pl.Good c) (h : UFC u c) (f : Pl.Fct) (he : f.e = true) (ha : f.a.toNat ≤ 8) (hb : f.b.toNat ≤ 8) : UFC (jn u c f.a.toNat f.b.toNat) (Pl.stp c f) := by
  have hA := hg.le f.a.toNat
  have hB := hg.le f.b.toNat
  have iA := hg.idem f.a.toNat
  have iB := hg.idem f.b.toNat
  have hs : ∀ t, Pl.stp c f t = if c t = max (c f.a.toNat) (c f.b.toNat) then min (c f.a.toNat) (c f.b.toNat) else c t := by
    intro t; unfold Pl.stp; rw [if_pos he]
  have hj : ∀ t, jn u c f.a.toNat f.b.toNat t = if t = max (c f.a.toNat) (c f.b.toNat) then min (c f.a.toNat) (c f.b.toNat) else u t := fun _ => rfl
  generalize jn u c f.a.toNat f.b.toNat = v at *
  generalize c f.a.toNat = A at *
  generalize c f.b.toNat = B at *
  have hm : c (min A B) = min A B := by rcases Nat.le_total A B with h1 | h1 <;> simp only [Nat.min_eq_left, Nat.min_eq_right, h1] <;> assumption
  have hM : c (max A B) = max A B := by rcases Nat.le_total A B with h1 | h1 <;> simp only [Nat.max_eq_left, Nat.max_eq_right, h1] <;> assumption
  constructor
  · intro t ht
    have := h.le t ht
    rw [hj]
    split <;> omega
  · intro t ht
    rw [hs, hs, hj]
    by_cases h1 : t = max A B
    · rw [if_pos h1, hm, h1, hM, if_pos rfl]
      split <;> rfl
    · rw [if_neg h1, h.cls t ht]
  · intro t ht
    rw [hs, hj]
    by_cases h1 : t = max A B
    · rw [if_pos h1]
      intro h2
      rw [h1, hM, if_pos rfl, ← h1]
      exact h2
    · rw [if_neg h1]
      intro h2
      rw [h.root t ht h2, if_neg h1]

/-- The structure in memory: nine numbers in the block g. -/
def UF (w : World) (g : Nat) (u : Nat → Nat) : Prop := ∃ cur, w.heap[g]? = some (.cells cur 54 (0, 0)) ∧ ∀ i, i ≤ 8 → cur[i]? = some (.int .i64 ((u i : Nat) : Int))
theorem UF.grow {w w' : World} {g : Nat} {u : Nat → Nat} (h : UF w g u) (hg : Grow w w') : UF w' g u := by
  obtain ⟨cur, h1, h2⟩ := h
  exact ⟨cur, hg.heap h1, h2⟩
theorem UF.cell {w : World} {g : Nat} {u : Nat → Nat} (h : UF w g u) {i : Nat} (hi : i ≤ 8) : w.cell? ⟨g, i, none⟩ = some (.int .i64 ((u i : Nat) : Int)) := by
  obtain ⟨cur, h1, h2⟩ := h
  rw [cell_of_row w g i cur _ (0, 0) h1]; exact h2 i hi
theorem UF.frozen {w : World} {g : Nat} {u : Nat → Nat} (h : UF w g u) (i : Nat) : w.frozen? ⟨g, i, none⟩ = false := by
  obtain ⟨cur, h1, h2⟩ := h
  simp [World.frozen?, h1]
theorem UF.set_ {w : World} {g : Nat} {u : Nat → Nat} (h : UF w g u) {o : Nat} (ho : o ≤ 8) (m : Nat) : UF (w.setCell ⟨g, o, none⟩ (.int .i64 (m : Int))) g (fun t => if t = o then m else u t) := by
  obtain ⟨cur, h1, h2⟩ := h
  refine ⟨cur.setIfInBounds o (.int .i64 (m : Int)), by simp [World.setCell, Array.getElem?_modify, h1], fun i hi => ?_⟩
  have h3 := h2 i hi
  rw [Array.getElem?_setIfInBounds]
  by_cases h4 : i = o
  · subst h4
    have : i < cur.size := (Array.getElem?_eq_some_iff.1 h3).1
    simp [this]
  · rw [if_neg (fun e => h4 e.symm)]
    simp [h4, h3]
theorem UF.lt {w : World} {g : Nat} {u : Nat → Nat} (h : UF w g u) : g < w.heap.size := by
  obtain ⟨cur, h1, h2⟩ := h
  exact (Array.getElem?_eq_some_iff.1 h1).1

theorem find_c (g : Nat) (u c : Nat → Nat) (t : Int) (w : World) (hu : UF w g u) (hc : UFC u c) (h0 : 0 ≤ t) (h8 : t ≤ 8) :
    Calls Try.prog 47 #[.pointer (some ⟨g, 0, none⟩), .int .i64 t] w fun e w' => e = .returned (.int .i64 ((c t.toNat : Nat) : Int)) ∧ w = w' := by
  obtain ⟨n, rfl⟩ := Int.eq_ofNat_of_zero_le h0
  rw [Int.toNat_natCast]
  have hn : n ≤ 8 := by omega
  clear h0 h8
  go_enter Try.func47, Try.ntmps47
  go_wp2
  go_loop [1] (fun q => ∃ k : Nat, k ≤ 8 ∧ q = .int .i64 k ∧ c k = c n) (fun q => (intOf q).toNat)
  case atStart => exact ⟨n, hn, rfl, rfl⟩
  case round =>
    obtain ⟨k, hk, rfl, hcl⟩ := hrel
    have HC := Lib.hid hcl
    clear hcl
    have h1 := hc.le k hk
    have h2 := hc.cls k hk
    have HC2 := Lib.hid (h2.trans HC.out)
    have HR := Lib.hid (hc.root k hk)
    clear h2
    have c0 := hu.cell hk
    by_cases he : u k = k
    · have hb : (((u k : Nat) : Int) != (k : Int)) = false := by simp [he]
      have HE := Lib.hid he
      clear he
      go_wp2
      go_ret
      exact ⟨by rw [← HC.out, HR.out HE.out]; rfl, rfl⟩
    · have hb : (((u k : Nat) : Int) != (k : Int)) = true := by simp; omega
      have hlt : u k < k := by omega
      clear he
      go_wp2
      go_round
      case rel => exact ⟨u k, by omega, rfl, HC2.out⟩
      case measure => simp [intOf]; omega

theorem join_c (g : Nat) (u c : Nat → Nat) (f : Pl.Fct) (w : World) (hu : UF w g u) (hc : UFC u c) (hgd : Pl.Good c) (he : f.e = true) (hv : Pl.fv f = true) :
    Calls Try.prog 48 #[.pointer (some ⟨g, 0, none⟩), .int .i64 f.a, .int .i64 f.b] w fun e w' => e = .returned (.tuple #[]) ∧ ∃ u', UF w' g u' ∧ UFC u' (Pl.stp c f) ∧ w.grownBy w' (some g) := by
  obtain ⟨⟨a0, a8⟩, ⟨b0, b8⟩⟩ := (Pl.fv_iff _).1 hv
  have HJ := Lib.hid (ufc_join hgd hc f he (by omega) (by omega))
  have ha := hgd.le f.a.toNat
  have hb := hgd.le f.b.toNat
  clear he hv
  by_cases hlt : c f.a.toNat < c f.b.toNat
  · have e1 := hu.cell (i := c f.b.toNat) (by omega)
    have f1 := hu.frozen (c f.b.toNat)
    go_enter Try.func48, Try.ntmps48
    go_wp2_with (go_at_call 47; refine (find_c g u c _ _ hu hc (by assumption) (by assumption)).mono ?_; rintro e w' ⟨rfl, rfl⟩)
    go_end0
    refine ⟨rfl, _, hu.set_ (o := c f.b.toNat) (by omega) (c f.a.toNat), ?_, only_setCell (World.grownBy.refl _ _) _ _⟩
    have h := HJ.out
    rw [show jn u c f.a.toNat f.b.toNat = fun t => if t = c f.b.toNat then c f.a.toNat else u t from by funext t; unfold jn; rw [Nat.max_eq_right (by omega), Nat.min_eq_left (by omega)]] at h
    exact h
  · have e1 := hu.cell (i := c f.a.toNat) (by omega)
    have f1 := hu.frozen (c f.a.toNat)
    go_enter Try.func48, Try.ntmps48
    go_wp2_with (go_at_call 47; refine (find_c g u c _ _ hu hc (by assumption) (by assumption)).mono ?_; rintro e w' ⟨rfl, rfl⟩)
    go_end0
    refine ⟨rfl, _, hu.set_ (o := c f.a.toNat) (by omega) (c f.b.toNat), ?_, only_setCell (World.grownBy.refl _ _) _ _⟩
    have h := HJ.out
    rw [show jn u c f.a.toNat f.b.toNat = fun t => if t = c f.a.toNat then c f.b.toNat else u t from by funext t; unfold jn; rw [Nat.max_eq_left (by omega), Nat.min_eq_right (by omega)]] at h
    exact h

set_option maxHeartbeats 800000 in
theorem allows_c (g : Nat) (u c : Nat → Nat) (A : Option Addr) (d : Nat) (l : List Pl.Fct) (w : World) (hu : UF w g u) (hc : UFC u c) (hA : Facts w A l) (hn : l.length ≤ 4611686018427387904) (hf : ∀ f ∈ l, Pl.fv f = true) :
    Calls Try.prog 46 #[.pointer (some ⟨g, 0, none⟩), .slice A l.length d] w fun e w' => e = .returned (.bool (Pl.sep c l)) ∧ Grow w w' := by
  have HF := Lib.hid hf
  clear hf
  go_enter Try.func46, Try.ntmps46
  go_wp2
  go_loopw [9] (fun i wr => ∃ k : Nat, k ≤ l.length ∧ i = .int .i64 k ∧ (∀ f ∈ l.take k, (f.e || !decide (c f.a.toNat = c f.b.toNat)) = true) ∧ Grow w wr) (fun i _ => l.length - (intOf i).toNat)
  case atStart => exact ⟨0, Nat.zero_le _, rfl, by simp, (by repeat (first | exact Grow.refl _ | assumption | refine Grow.alloc ?_ _ | refine Grow.drew ?_ | refine Grow.drewN ?_ _ | refine Grow.trans ?_ (by assumption) | refine Grow.below ?_ (by assumption) (by first | exact Nat.le_refl _ | omega)))⟩
  case round =>
    obtain ⟨k, hk, rfl, hv, hg⟩ := hrel
    have HV := Lib.hid hv
    clear hv
    by_cases hlt : k < l.length
    · obtain ⟨b, off, rfl, c0, c1, c2⟩ := (hA.grow hg).at_ hlt
      have hq := (hu.grow hg).grow (Grow.alloc (Grow.refl wr) (.cells #[.bool l[k].e, .int .i64 l[k].a, .int .i64 l[k].b] 37))
      obtain ⟨⟨a0, a1⟩, ⟨b0, b1⟩⟩ := (Pl.fv_iff _).1 (HF.out l[k] (List.getElem_mem hlt))
      cases he : l[k].e with
      | true =>
        have HE := Lib.hid he
        rw [he] at c0 hq
        clear he
        go_wp2_with fail
        go_quiet (fail)
        go_wp2
        go_roundw
        case rel => exact ⟨k + 1, by omega, by go_num, all_step hlt HV.out (by rw [HE.out]; rfl), (by repeat (first | exact Grow.refl _ | assumption | refine Grow.alloc ?_ _ | refine Grow.drew ?_ | refine Grow.drewN ?_ _ | refine Grow.trans ?_ (by assumption) | refine Grow.below ?_ (by assumption) (by first | exact Nat.le_refl _ | omega)))⟩
        case measure => simp [intOf]; omega
      | false =>
        have HE := Lib.hid he
        rw [he] at c0 hq
        clear he
        by_cases hcc : c l[k].a.toNat = c l[k].b.toNat
        · have H := Lib.hid (show Pl.sep c l = false by unfold Pl.sep; exact all_false (p := fun f => f.e || !decide (c f.a.toNat = c f.b.toNat)) hlt (by rw [HE.out, hcc]; simp))
          have hb : (((c l[k].a.toNat : Nat) : Int) == ((c l[k].b.toNat : Nat) : Int)) = true := by simp [hcc]
          clear hcc
          go_wp2_with fail
          go_quiet ((go_at_call 47; exact qcall (find_c g u c _ _ (hq.grow (by repeat (first | exact Grow.refl _ | assumption | refine Grow.alloc ?_ _ | refine Grow.drew ?_ | refine Grow.drewN ?_ _ | refine Grow.trans ?_ (by assumption) | refine Grow.below ?_ (by assumption) (by first | exact Nat.le_refl _ | omega)))) hc (by assumption) (by assumption))))
          go_wp2
          go_ret
          exact ⟨by rw [H.out]; rfl, (by repeat (first | exact Grow.refl _ | assumption | refine Grow.alloc ?_ _ | refine Grow.drew ?_ | refine Grow.drewN ?_ _ | refine Grow.trans ?_ (by assumption) | refine Grow.below ?_ (by assumption) (by first | exact Nat.le_refl _ | omega)))⟩
        · have hb : (((c l[k].a.toNat : Nat) : Int) == ((c l[k].b.toNat : Nat) : Int)) = false := by simp; omega
          have HC := Lib.hid hcc
          clear hcc
          go_wp2_with fail
          go_quiet ((go_at_call 47; exact qcall (find_c g u c _ _ (hq.grow (by repeat (first | exact Grow.refl _ | assumption | refine Grow.alloc ?_ _ | refine Grow.drew ?_ | refine Grow.drewN ?_ _ | refine Grow.trans ?_ (by assumption) | refine Grow.below ?_ (by assumption) (by first | exact Nat.le_refl _ | omega)))) hc (by assumption) (by assumption))))
          go_wp2
          go_roundw
          case rel => exact ⟨k + 1, by omega, by go_num, all_step hlt HV.out (by rw [decide_eq_false HC.out]; simp), (by repeat (first | exact Grow.refl _ | assumption | refine Grow.alloc ?_ _ | refine Grow.drew ?_ | refine Grow.drewN ?_ _ | refine Grow.trans ?_ (by assumption) | refine Grow.below ?_ (by assumption) (by first | exact Nat.le_refl _ | omega)))⟩
          case measure => simp [intOf]; omega
    · have H := Lib.hid (show Pl.sep c l = true by unfold Pl.sep; exact all_done (p := fun f => f.e || !decide (c f.a.toNat = c f.b.toNat)) hlt HV.out)
      go_wp2
      go_ret
      exact ⟨by rw [H.out]; rfl, (by repeat (first | exact Grow.refl _ | assumption | refine Grow.alloc ?_ _ | refine Grow.drew ?_ | refine Grow.drewN ?_ _ | refine Grow.trans ?_ (by assumption) | refine Grow.below ?_ (by assumption) (by first | exact Nat.le_refl _ | omega)))⟩

end Go.Proofs.Ytcpkmnlhenbnlaa
