/- Words for assertions in memory; contracts of the laws' own helpers of assertions. Conditions: the lengths are far from Go's bounds. Printed by wip/gen_as.py. -/
import Derived.Test.YtifdefkkofngoaaDoorAtm
import Derived.Test.YtifdefkkofngoaaDoorStM
namespace Go.Proofs.YtifdefkkofngoaaDoor
open Go.RowKit
set_option linter.unusedVariables false

/-- An assertion that can be read. -/
structure Asrs (w : World) (A B : Option Addr) (s : Pl.Asr) : Prop where
  v : Facts w A s.f
  h : Atoms w B s.a
theorem Asrs.grow {w w' : World} {A B : Option Addr} {s : Pl.Asr} (k : Asrs w A B s) (g : Grow w w') : Asrs w' A B s := ⟨k.v.grow g, k.h.grow g⟩
/-- An assertion in two rows of the call's own. -/
structure OAs (w : World) (lo : Nat) (A B : Option Addr) (c d : Nat) (s : Pl.Asr) : Prop where
  v : OFacts w lo (.slice A s.f.length c) s.f
  h : OAtoms w lo (.slice B s.a.length d) s.a
  ap : ∀ k, (Value.slice A s.f.length c).ownBlock = some k → (Value.slice B s.a.length d).ownBlock ≠ some k
theorem OAs.st {w : World} {lo : Nat} {A B : Option Addr} {c d : Nat} {s : Pl.Asr} (k : OAs w lo A B c d s) : Asrs w A B s := ⟨OFacts.facts rfl k.v, OAtoms.atoms rfl k.h⟩
theorem OAs.grow {w w' : World} {lo : Nat} {A B : Option Addr} {c d : Nat} {s : Pl.Asr} (k : OAs w lo A B c d s) (g : Grow w w') : OAs w' lo A B c d s := ⟨own_grow k.v g, own_grow k.h g, k.ap⟩
theorem OAs.lo {w : World} {lo lo' : Nat} {A B : Option Addr} {c d : Nat} {s : Pl.Asr} (k : OAs w lo A B c d s) (h : lo' ≤ lo) : OAs w lo' A B c d s := ⟨own_lo k.v h, own_lo k.h h, k.ap⟩
theorem OAs.emp (w : World) (lo : Nat) : OAs w lo none none 0 0 Pl.noA := ⟨⟨rfl, .inl ⟨rfl, rfl⟩⟩, ⟨rfl, .inl ⟨rfl, rfl⟩⟩, fun k h => by cases h⟩
theorem OAs.kept {w w' : World} {lo : Nat} {A B : Option Addr} {c d : Nat} {s : Pl.Asr} {row : Option Nat} (k : OAs w lo A B c d s) (g : w.grownBy w' row) (hr : ∀ k, row = some k → k < lo ∨ w.heap.size ≤ k) : OAs w' lo A B c d s :=
  ⟨apart_kept k.v (Grow.refl _) g hr, apart_kept k.h (Grow.refl _) g hr, k.ap⟩
theorem OAs.far {w : World} {lo : Nat} {A B : Option Addr} {c d : Nat} {s : Pl.Asr} (k : OAs w lo A B c d s) {p : Addr} (hp : p.block < lo) (u : Value) : OAs (w.setCell p u) lo A B c d s := ⟨own_far_lo k.v hp u, own_far_lo k.h hp u, k.ap⟩
theorem Asrs.kept {w w' : World} {A B : Option Addr} {s : Pl.Asr} {lo : Nat} (k : Asrs w A B s) (g : Below lo w w') (hl : w.heap.size ≤ lo) : Asrs w' A B s := k.grow (g.mono hl)

abbrev asval (A B : Option Addr) (c d : Nat) (s : Pl.Asr) : Value := .agg #[.slice A s.f.length c, .slice B s.a.length d]

theorem OAs.bdv {w : World} {lo : Nat} {A B : Option Addr} {c d : Nat} {s : Pl.Asr} (k : OAs w lo A B c d s) : Bd lo w.heap.size (.slice A s.f.length c) := own_blk k.v
theorem OAs.bdh {w : World} {lo : Nat} {A B : Option Addr} {c d : Nat} {s : Pl.Asr} (k : OAs w lo A B c d s) : Bd lo w.heap.size (.slice B s.a.length d) := own_blk k.h
theorem Marked.oas {w w' : World} {v1 v2 : Value} {lo c d lo1 hi1 lo2 hi2 lo3 hi3 : Nat} {A B : Option Addr} {s : Pl.Asr} (h : Marked w w' v1 v2) (o : OAs w lo A B c d s) (b : Bd lo3 hi3 (.slice A s.f.length c)) (b' : Bd lo3 hi3 (.slice B s.a.length d)) (b1 : Bd lo1 hi1 v1) (b2 : Bd lo2 hi2 v2) (e1 : hi3 ≤ lo1 ∨ hi1 ≤ lo3) (e2 : hi3 ≤ lo2 ∨ hi2 ≤ lo3) : OAs w' lo A B c d s :=
  ⟨h.own o.v b b1 b2 e1 e2, h.own o.h b' b1 b2 e1 e2, o.ap⟩

theorem heldFactS_c (A : Option Addr) (c k n : Nat) (w : World) (hA : Facts w A (markF k n)) (hn : n ≤ 4194304) (hk : k ≤ 4611686018427387) :
    Calls Tryd.prog 72 #[.slice A n c, .int .i64 k] w fun e w' => e = .returned (.int .i64 ((k + 3 * n : Nat) : Int)) ∧ w = w' := by
  go_enter Tryd.func72, Tryd.ntmps72
  go_wp2
  go_loop [1, 5] (fun q i => ∃ j : Nat, j ≤ n ∧ i = .int .i64 j ∧ q = .int .i64 ((k + 3 * j : Nat) : Int)) (fun _ i => n - (intOf i).toNat)
  case atStart => exact ⟨0, Nat.zero_le _, rfl, by simp⟩
  case round =>
    obtain ⟨j, hj, rfl, rfl⟩ := hrel
    by_cases hlt : j < n
    · have hlm : j < (markF k n).length := by rw [markF_len]; exact hlt
      obtain ⟨b, off, rfl, c0, c1, c2⟩ := hA.at_ hlm
      rw [markF_get] at c0 c1 c2
      replace c0 : w.cell? ⟨b, off + j * 3, none⟩ = some (.bool (((k : Int) + 3 * (j : Int)) % 3 == 0)) := by
        rw [show ((((k : Int) + 3 * (j : Int)) % 3 == 0)) = decide ((k + 3 * j) % 3 = 0) from by rw [Bool.eq_iff_iff]; simp; omega]; exact c0
      go_wp2
      go_round
      case rel => exact ⟨j + 1, by omega, by go_num, by go_num⟩
      case measure => simp [intOf]; omega
    · have hjl : j = n := by omega
      subst hjl
      go_wp2
      go_ret
      exact ⟨by simp, rfl⟩

theorem heldAtomS_c (A : Option Addr) (c k n : Nat) (w : World) (hA : Atoms w A (markX k n)) (hn : n ≤ 4194304) (hk : k ≤ 4611686018427387) :
    Calls Tryd.prog 73 #[.slice A n c, .int .i64 k] w fun e w' => e = .returned (.int .i64 ((k + 3 * n : Nat) : Int)) ∧ w = w' := by
  go_enter Tryd.func73, Tryd.ntmps73
  go_wp2
  go_loop [1, 5] (fun q i => ∃ j : Nat, j ≤ n ∧ i = .int .i64 j ∧ q = .int .i64 ((k + 3 * j : Nat) : Int)) (fun _ i => n - (intOf i).toNat)
  case atStart => exact ⟨0, Nat.zero_le _, rfl, by simp⟩
  case round =>
    obtain ⟨j, hj, rfl, rfl⟩ := hrel
    by_cases hlt : j < n
    · have hlm : j < (markX k n).length := by rw [markX_len]; exact hlt
      obtain ⟨b, off, rfl, c0, c1, c2⟩ := hA.at_ hlm
      rw [markX_get] at c0 c1 c2
      go_wp2
      go_round
      case rel => exact ⟨j + 1, by omega, by go_num, by go_num⟩
      case measure => simp [intOf]; omega
    · have hjl : j = n := by omega
      subst hjl
      go_wp2
      go_ret
      exact ⟨by simp, rfl⟩

theorem eqAssertion_c (A B A' B' : Option Addr) (c d c' d' : Nat) (s t : Pl.Asr) (w : World) (hS : Asrs w A B s) (hT : Asrs w A' B' t) (h1 : s.f.length ≤ 4194304) (h2 : s.a.length ≤ 4194304) (h3 : t.f.length ≤ 4194304) (h4 : t.a.length ≤ 4194304) :
    Calls Tryd.prog 27 #[asval A B c d s, asval A' B' c' d' t] w fun e w' => e = .returned (.bool (decide (s = t))) ∧ Grow w w' := by
  obtain ⟨v, h⟩ := s
  obtain ⟨v', h'⟩ := t
  have hst : decide ((⟨v, h⟩ : Pl.Asr) = ⟨v', h'⟩) = (decide (v = v') && decide (h = h')) := by rw [Bool.eq_iff_iff]; simp
  have HE := Lib.hid hst
  clear hst
  have y1 := Box2.new w 46 (.slice A v.length c) (.slice B h.length d)
  have y2 := Box2.new (w.alloc (.cells #[.slice A v.length c, .slice B h.length d] 46)) 46 (.slice A' v'.length c') (.slice B' h'.length d')
  simp only [World.size_alloc] at y2
  go_enter Tryd.func27, Tryd.ntmps27
  go_wp2_with fail
  refine (eqFactS_c A A' c c' v v' _ (hS.v.grow (by repeat (first | exact Grow.refl _ | assumption | refine Grow.alloc ?_ _ | refine Grow.drew ?_ | refine Grow.drewN ?_ _ | refine Grow.trans ?_ (by assumption) | refine Grow.below ?_ (by assumption) (by first | exact Nat.le_refl _ | omega)))) (hT.v.grow (by repeat (first | exact Grow.refl _ | assumption | refine Grow.alloc ?_ _ | refine Grow.drew ?_ | refine Grow.drewN ?_ _ | refine Grow.trans ?_ (by assumption) | refine Grow.below ?_ (by assumption) (by first | exact Nat.le_refl _ | omega)))) (by omega) (by omega)).mono ?_
  rintro e w1 ⟨rfl, g1⟩
  have y1 := y1.grow (show Grow _ w1 from (by repeat (first | exact Grow.refl _ | assumption | refine Grow.alloc ?_ _ | refine Grow.drew ?_ | refine Grow.drewN ?_ _ | refine Grow.trans ?_ (by assumption) | refine Grow.below ?_ (by assumption) (by first | exact Nat.le_refl _ | omega))))
  have y2 := y2.grow (show Grow _ w1 from (by repeat (first | exact Grow.refl _ | assumption | refine Grow.alloc ?_ _ | refine Grow.drew ?_ | refine Grow.drewN ?_ _ | refine Grow.trans ?_ (by assumption) | refine Grow.below ?_ (by assumption) (by first | exact Nat.le_refl _ | omega))))
  obtain ⟨k0, k1, _, _⟩ := y1.facts
  obtain ⟨q0, q1, _, _⟩ := y2.facts
  by_cases hv : v = v'
  · have HV := Lib.hid (decide_eq_true hv)
    clear hv
    rw [HV.out]
    go_wp2_with fail
    refine (eqAtomS_c B B' d d' h h' _ (hS.h.grow (by repeat (first | exact Grow.refl _ | assumption | refine Grow.alloc ?_ _ | refine Grow.drew ?_ | refine Grow.drewN ?_ _ | refine Grow.trans ?_ (by assumption) | refine Grow.below ?_ (by assumption) (by first | exact Nat.le_refl _ | omega)))) (hT.h.grow (by repeat (first | exact Grow.refl _ | assumption | refine Grow.alloc ?_ _ | refine Grow.drew ?_ | refine Grow.drewN ?_ _ | refine Grow.trans ?_ (by assumption) | refine Grow.below ?_ (by assumption) (by first | exact Nat.le_refl _ | omega)))) (by omega) (by omega)).mono ?_
    rintro e w2 ⟨rfl, g2⟩
    by_cases hh : h = h'
    · have HH := Lib.hid (decide_eq_true hh)
      clear hh
      rw [HH.out]
      go_wp2_with fail
      go_ret
      exact ⟨by rw [HE.out, HV.out, HH.out]; rfl, (by repeat (first | exact Grow.refl _ | assumption | refine Grow.alloc ?_ _ | refine Grow.drew ?_ | refine Grow.drewN ?_ _ | refine Grow.trans ?_ (by assumption) | refine Grow.below ?_ (by assumption) (by first | exact Nat.le_refl _ | omega)))⟩
    · have HH := Lib.hid (decide_eq_false hh)
      clear hh
      rw [HH.out]
      go_wp2_with fail
      go_ret
      exact ⟨by rw [HE.out, HV.out, HH.out]; rfl, (by repeat (first | exact Grow.refl _ | assumption | refine Grow.alloc ?_ _ | refine Grow.drew ?_ | refine Grow.drewN ?_ _ | refine Grow.trans ?_ (by assumption) | refine Grow.below ?_ (by assumption) (by first | exact Nat.le_refl _ | omega)))⟩
  · have HV := Lib.hid (decide_eq_false hv)
    clear hv
    rw [HV.out]
    go_wp2_with fail
    go_ret
    exact ⟨by rw [HE.out, HV.out]; rfl, (by repeat (first | exact Grow.refl _ | assumption | refine Grow.alloc ?_ _ | refine Grow.drew ?_ | refine Grow.drewN ?_ _ | refine Grow.trans ?_ (by assumption) | refine Grow.below ?_ (by assumption) (by first | exact Nat.le_refl _ | omega)))⟩

theorem ofacts_mark {w : World} {lo c k n : Nat} {A : Option Addr} (h : OFacts w lo (.slice A n c) (markF k n)) : OFacts w lo (.slice A (markF k n).length c) (markF k n) := by
  rw [markF_len]; exact h
theorem oatoms_mark {w : World} {lo c k n : Nat} {A : Option Addr} (h : OAtoms w lo (.slice A n c) (markX k n)) : OAtoms w lo (.slice A (markX k n).length c) (markX k n) := by
  rw [markX_len]; exact h
theorem markAssertion_c (A B : Option Addr) (c d lo : Nat) (s : Pl.Asr) (k : Nat) (w : World) (hS : OAs w lo A B c d s) (h1 : s.f.length ≤ 4194304) (h2 : s.a.length ≤ 4194304) (hk : k ≤ 4611686018) :
    Calls Tryd.prog 28 #[asval A B c d s, .int .i64 k] w fun e w' => e = .returned (.int .i64 ((k + 3 * s.f.length + 3 * s.a.length : Nat) : Int)) ∧ OAs w' lo A B c d ⟨markF k s.f.length, markX (k + 3 * s.f.length) s.a.length⟩ ∧
      ∃ w1 w2, Grow w w1 ∧ w1.grownBy w2 (Value.slice A s.f.length c).ownBlock ∧ w2.grownBy w' (Value.slice B s.a.length d).ownBlock := by
  obtain ⟨v, h⟩ := s
  obtain ⟨ov, oh, ap⟩ := hS
  replace ov : OFacts w lo (.slice A v.length c) v := ov
  replace oh : OAtoms w lo (.slice B h.length d) h := oh
  replace ap : ∀ k, (Value.slice A v.length c).ownBlock = some k → (Value.slice B h.length d).ownBlock ≠ some k := ap
  replace h1 : v.length ≤ 4194304 := h1
  replace h2 : h.length ≤ 4194304 := h2
  have bA := own_blk ov
  have bB := own_blk oh
  go_enter Tryd.func28, Tryd.ntmps28
  go_wp2_with fail
  refine (markFactS_c A c lo v k _ (own_grow ov (by repeat (first | exact Grow.refl _ | assumption | refine Grow.alloc ?_ _ | refine Grow.drew ?_ | refine Grow.drewN ?_ _ | refine Grow.trans ?_ (by assumption) | refine Grow.below ?_ (by assumption) (by first | exact Nat.le_refl _ | omega)))) h1 (by omega)).mono ?_
  rintro e w1 ⟨rfl, m1, r1⟩
  have y1 := (Box2.new w 46 (.slice A v.length c) (.slice B h.length d)).kept r1 (fun e => by have := bA _ e; omega)
  obtain ⟨k0, k1, _, _⟩ := y1.facts
  have oh1 : OAtoms w1 lo (.slice B h.length d) h := own_kept (own_grow oh (by repeat (first | exact Grow.refl _ | assumption | refine Grow.alloc ?_ _ | refine Grow.drew ?_ | refine Grow.drewN ?_ _ | refine Grow.trans ?_ (by assumption) | refine Grow.below ?_ (by assumption) (by first | exact Nat.le_refl _ | omega)))) r1 (fun k hk e => ap k e hk)
  clear y1
  go_wp2_with fail
  refine (markAtomS_c B d lo h (k + 3 * v.length) _ oh1 h2 (by omega)).mono ?_
  rintro e w2 ⟨rfl, m2, r2⟩
  have mA : OFacts w2 lo (.slice A v.length c) (markF k v.length) := own_kept m1 r2 (fun k hk e => ap k hk e)
  go_wp2_with fail
  go_ret
  exact ⟨rfl, ⟨ofacts_mark mA, oatoms_mark m2, by rw [markF_len, markX_len]; exact ap⟩, _, _, Grow.alloc (Grow.refl w) _, r1, r2⟩

theorem heldAssertion_c (A B : Option Addr) (c d k n m : Nat) (w : World) (hA : Facts w A (markF k n)) (hB : Atoms w B (markX (k + 3 * n) m)) (hn : n ≤ 4194304) (hm : m ≤ 4194304) (hk : k ≤ 4611686018) :
    Calls Tryd.prog 29 #[.agg #[.slice A n c, .slice B m d], .int .i64 k] w fun e w' => e = .returned (.int .i64 ((k + 3 * n + 3 * m : Nat) : Int)) ∧ Grow w w' := by
  go_enter Tryd.func29, Tryd.ntmps29
  go_wp2_with fail
  refine (heldFactS_c A c k n _ (hA.grow (by repeat (first | exact Grow.refl _ | assumption | refine Grow.alloc ?_ _ | refine Grow.drew ?_ | refine Grow.drewN ?_ _ | refine Grow.trans ?_ (by assumption) | refine Grow.below ?_ (by assumption) (by first | exact Nat.le_refl _ | omega)))) hn (by omega)).mono ?_
  rintro e w1 ⟨rfl, rfl⟩
  go_wp2_with fail
  refine (heldAtomS_c B d (k + 3 * n) m _ (hB.grow (by repeat (first | exact Grow.refl _ | assumption | refine Grow.alloc ?_ _ | refine Grow.drew ?_ | refine Grow.drewN ?_ _ | refine Grow.trans ?_ (by assumption) | refine Grow.below ?_ (by assumption) (by first | exact Nat.le_refl _ | omega)))) hm (by omega)).mono ?_
  rintro e w2 ⟨rfl, rfl⟩
  go_wp2_with fail
  go_ret
  exact ⟨rfl, (by repeat (first | exact Grow.refl _ | assumption | refine Grow.alloc ?_ _ | refine Grow.drew ?_ | refine Grow.drewN ?_ _ | refine Grow.trans ?_ (by assumption) | refine Grow.below ?_ (by assumption) (by first | exact Nat.le_refl _ | omega)))⟩

theorem markAssertion_m (A B : Option Addr) (c d lo : Nat) (s : Pl.Asr) (k : Nat) (w : World) (hS : OAs w lo A B c d s) (h1 : s.f.length ≤ 4194304) (h2 : s.a.length ≤ 4194304) (hk : k ≤ 4611686018) :
    Calls Tryd.prog 28 #[asval A B c d s, .int .i64 k] w fun e w' => e = .returned (.int .i64 ((k + 3 * s.f.length + 3 * s.a.length : Nat) : Int)) ∧ (Facts w' A (markF k s.f.length) ∧ Atoms w' B (markX (k + 3 * s.f.length) s.a.length)) ∧ Marked w w' (.slice A s.f.length c) (.slice B s.a.length d) :=
  (markAssertion_c A B c d lo s k w hS h1 h2 hk).mono fun e w' ⟨a, b, m⟩ => ⟨a, ⟨b.st.v, b.st.h⟩, m⟩

end Go.Proofs.YtifdefkkofngoaaDoor
