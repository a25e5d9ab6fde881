/- Contracts of the tests whether two assertions are the same, in the program. Conditions: the lengths are far from Go's bounds. Printed by wip/gen_as.py. -/
import Derived.Test.YtifdefkkofngoaaDoorAs
namespace Go.Proofs.YtifdefkkofngoaaDoor
open Go.RowKit
set_option linter.unusedVariables false

set_option maxHeartbeats 400000 in
theorem slF_c (A B : Option Addr) (c d : Nat) (l m : List Pl.Fct) (w : World) (hA : Facts w A l) (hB : Facts w B m) (hn : l.length ≤ 4611686018427387904) (hm : m.length ≤ 4611686018427387904) :
    Calls Tryd.prog 82 #[.slice A l.length c, .slice B m.length d] w fun e w' => e = .returned (.bool (decide (l = m))) ∧ Grow w w' := by
  by_cases hlen : l.length = m.length
  · have HL := Lib.hid hlen
    have hb : ((l.length : Int) != (m.length : Int)) = false := by simp [hlen]
    clear hlen
    go_enter Tryd.func82, Tryd.ntmps82
    go_wp2
    go_loopw [14] (fun i wr => ∃ k : Nat, k ≤ l.length ∧ i = .int .i64 k ∧ l.take k = m.take k ∧ Grow w wr) (fun i _ => l.length - (intOf i).toNat)
    case atStart => exact ⟨0, Nat.zero_le _, rfl, by simp, (by repeat (first | exact Grow.refl _ | assumption | refine Grow.alloc ?_ _ | refine Grow.drew ?_ | refine Grow.drewN ?_ _ | refine Grow.trans ?_ (by assumption) | refine Grow.below ?_ (by assumption) (by first | exact Nat.le_refl _ | omega)))⟩
    case round =>
      obtain ⟨k, hk, rfl, hv, hg⟩ := hrel
      have HV := Lib.hid hv
      clear hv
      by_cases hlt : k < l.length
      · have hlm : k < m.length := by have := HL.out; omega
        obtain ⟨b, off, rfl, c0, c1, c2⟩ := (hA.grow hg).at_ hlt
        obtain ⟨b', off', rfl, d0, d1, d2⟩ := ((hB.grow hg).grow (Grow.alloc (Grow.refl wr) (.cells #[.bool l[k].e, .int .i64 l[k].a, .int .i64 l[k].b] 78))).at_ hlm
        clear hb
        by_cases he : l[k] = m[k]
        · have HE := Lib.hid he
          have e0 : l[k].e = m[k].e := by rw [he]
          have e1 : l[k].a = m[k].a := by rw [he]
          have e2 : l[k].b = m[k].b := by rw [he]
          clear he
          rw [← e0] at d0
          rw [← e1] at d1
          rw [← e2] at d2
          clear e0 e1 e2
          go_wp2_with fail
          go_quiet (fail)
          go_wp2_with fail
          go_roundw
          case rel => exact ⟨k + 1, by omega, by go_num, take_step hlt hlm HE.out HV.out, (by repeat (first | exact Grow.refl _ | assumption | refine Grow.alloc ?_ _ | refine Grow.drew ?_ | refine Grow.drewN ?_ _ | refine Grow.trans ?_ (by assumption) | refine Grow.below ?_ (by assumption) (by first | exact Nat.le_refl _ | omega)))⟩
          case measure => simp [intOf]; omega
        · have HE := Lib.hid he
          have h3 : (l[k].e == m[k].e) = false ∨ (l[k].e = m[k].e ∧ (l[k].a == m[k].a) = false) ∨ (l[k].e = m[k].e ∧ l[k].a = m[k].a ∧ (l[k].b == m[k].b) = false) := by
            by_cases a : l[k].e = m[k].e
            · by_cases b : l[k].a = m[k].a
              · by_cases c : l[k].b = m[k].b
                · exact absurd (by cases hx : l[k]; cases hy : m[k]; rw [hx, hy] at a b c; simp only at a b c; subst a b c; rfl) he
                · exact .inr (.inr ⟨a, b, by simpa using c⟩)
              · exact .inr (.inl ⟨a, by simpa using b⟩)
            · exact .inl (by simpa using a)
          clear he
          rcases h3 with e0 | ⟨q0, e0⟩ | ⟨q0, q1, e0⟩
          · go_wp2_with fail
            go_quiet (fail)
            go_wp2_with fail
            go_ret
            exact ⟨by rw [decide_eq_false (list_ne hlt hlm HE.out)]; rfl, (by repeat (first | exact Grow.refl _ | assumption | refine Grow.alloc ?_ _ | refine Grow.drew ?_ | refine Grow.drewN ?_ _ | refine Grow.trans ?_ (by assumption) | refine Grow.below ?_ (by assumption) (by first | exact Nat.le_refl _ | omega)))⟩
          · rw [← q0] at d0
            clear q0
            go_wp2_with fail
            go_quiet (fail)
            go_wp2_with fail
            go_ret
            exact ⟨by rw [decide_eq_false (list_ne hlt hlm HE.out)]; rfl, (by repeat (first | exact Grow.refl _ | assumption | refine Grow.alloc ?_ _ | refine Grow.drew ?_ | refine Grow.drewN ?_ _ | refine Grow.trans ?_ (by assumption) | refine Grow.below ?_ (by assumption) (by first | exact Nat.le_refl _ | omega)))⟩
          · rw [← q0] at d0
            rw [← q1] at d1
            clear q0 q1
            go_wp2_with fail
            go_quiet (fail)
            go_wp2_with fail
            go_ret
            exact ⟨by rw [decide_eq_false (list_ne hlt hlm HE.out)]; rfl, (by repeat (first | exact Grow.refl _ | assumption | refine Grow.alloc ?_ _ | refine Grow.drew ?_ | refine Grow.drewN ?_ _ | refine Grow.trans ?_ (by assumption) | refine Grow.below ?_ (by assumption) (by first | exact Nat.le_refl _ | omega)))⟩
      · have H := Lib.hid (show l = m by have h1 := HV.out; have := HL.out; rw [take_eq_all hlt, take_eq_all (by omega)] at h1; exact h1)
        go_wp2
        go_ret
        exact ⟨by rw [decide_eq_true H.out]; rfl, (by repeat (first | exact Grow.refl _ | assumption | refine Grow.alloc ?_ _ | refine Grow.drew ?_ | refine Grow.drewN ?_ _ | refine Grow.trans ?_ (by assumption) | refine Grow.below ?_ (by assumption) (by first | exact Nat.le_refl _ | omega)))⟩
  · have H := Lib.hid (decide_eq_false (fun h : l = m => hlen (by rw [h])))
    have hb : ((l.length : Int) != (m.length : Int)) = true := by simp; omega
    go_enter Tryd.func82, Tryd.ntmps82
    go_wp2
    go_ret
    exact ⟨by rw [H.out]; rfl, (by repeat (first | exact Grow.refl _ | assumption | refine Grow.alloc ?_ _ | refine Grow.drew ?_ | refine Grow.drewN ?_ _ | refine Grow.trans ?_ (by assumption) | refine Grow.below ?_ (by assumption) (by first | exact Nat.le_refl _ | omega)))⟩

set_option maxHeartbeats 400000 in
theorem slA_c (A B : Option Addr) (c d : Nat) (l m : List Pl.Atm) (w : World) (hA : Atoms w A l) (hB : Atoms w B m) (hn : l.length ≤ 4611686018427387904) (hm : m.length ≤ 4611686018427387904) :
    Calls Tryd.prog 83 #[.slice A l.length c, .slice B m.length d] w fun e w' => e = .returned (.bool (decide (l = m))) ∧ Grow w w' := by
  by_cases hlen : l.length = m.length
  · have HL := Lib.hid hlen
    have hb : ((l.length : Int) != (m.length : Int)) = false := by simp [hlen]
    clear hlen
    go_enter Tryd.func83, Tryd.ntmps83
    go_wp2
    go_loopw [14] (fun i wr => ∃ k : Nat, k ≤ l.length ∧ i = .int .i64 k ∧ l.take k = m.take k ∧ Grow w wr) (fun i _ => l.length - (intOf i).toNat)
    case atStart => exact ⟨0, Nat.zero_le _, rfl, by simp, (by repeat (first | exact Grow.refl _ | assumption | refine Grow.alloc ?_ _ | refine Grow.drew ?_ | refine Grow.drewN ?_ _ | refine Grow.trans ?_ (by assumption) | refine Grow.below ?_ (by assumption) (by first | exact Nat.le_refl _ | omega)))⟩
    case round =>
      obtain ⟨k, hk, rfl, hv, hg⟩ := hrel
      have HV := Lib.hid hv
      clear hv
      by_cases hlt : k < l.length
      · have hlm : k < m.length := by have := HL.out; omega
        obtain ⟨b, off, rfl, c0, c1, c2⟩ := (hA.grow hg).at_ hlt
        obtain ⟨b', off', rfl, d0, d1, d2⟩ := ((hB.grow hg).grow (Grow.alloc (Grow.refl wr) (.cells #[.int .i64 l[k].k, .int .i64 l[k].a, .int .i64 l[k].b] 82))).at_ hlm
        clear hb
        by_cases he : l[k] = m[k]
        · have HE := Lib.hid he
          have e0 : l[k].k = m[k].k := by rw [he]
          have e1 : l[k].a = m[k].a := by rw [he]
          have e2 : l[k].b = m[k].b := by rw [he]
          clear he
          rw [← e0] at d0
          rw [← e1] at d1
          rw [← e2] at d2
          clear e0 e1 e2
          go_wp2_with fail
          go_quiet (fail)
          go_wp2_with fail
          go_roundw
          case rel => exact ⟨k + 1, by omega, by go_num, take_step hlt hlm HE.out HV.out, (by repeat (first | exact Grow.refl _ | assumption | refine Grow.alloc ?_ _ | refine Grow.drew ?_ | refine Grow.drewN ?_ _ | refine Grow.trans ?_ (by assumption) | refine Grow.below ?_ (by assumption) (by first | exact Nat.le_refl _ | omega)))⟩
          case measure => simp [intOf]; omega
        · have HE := Lib.hid he
          have h3 : (l[k].k == m[k].k) = false ∨ (l[k].k = m[k].k ∧ (l[k].a == m[k].a) = false) ∨ (l[k].k = m[k].k ∧ l[k].a = m[k].a ∧ (l[k].b == m[k].b) = false) := by
            by_cases a : l[k].k = m[k].k
            · by_cases b : l[k].a = m[k].a
              · by_cases c : l[k].b = m[k].b
                · exact absurd (by cases hx : l[k]; cases hy : m[k]; rw [hx, hy] at a b c; simp only at a b c; subst a b c; rfl) he
                · exact .inr (.inr ⟨a, b, by simpa using c⟩)
              · exact .inr (.inl ⟨a, by simpa using b⟩)
            · exact .inl (by simpa using a)
          clear he
          rcases h3 with e0 | ⟨q0, e0⟩ | ⟨q0, q1, e0⟩
          · go_wp2_with fail
            go_quiet (fail)
            go_wp2_with fail
            go_ret
            exact ⟨by rw [decide_eq_false (list_ne hlt hlm HE.out)]; rfl, (by repeat (first | exact Grow.refl _ | assumption | refine Grow.alloc ?_ _ | refine Grow.drew ?_ | refine Grow.drewN ?_ _ | refine Grow.trans ?_ (by assumption) | refine Grow.below ?_ (by assumption) (by first | exact Nat.le_refl _ | omega)))⟩
          · rw [← q0] at d0
            clear q0
            go_wp2_with fail
            go_quiet (fail)
            go_wp2_with fail
            go_ret
            exact ⟨by rw [decide_eq_false (list_ne hlt hlm HE.out)]; rfl, (by repeat (first | exact Grow.refl _ | assumption | refine Grow.alloc ?_ _ | refine Grow.drew ?_ | refine Grow.drewN ?_ _ | refine Grow.trans ?_ (by assumption) | refine Grow.below ?_ (by assumption) (by first | exact Nat.le_refl _ | omega)))⟩
          · rw [← q0] at d0
            rw [← q1] at d1
            clear q0 q1
            go_wp2_with fail
            go_quiet (fail)
            go_wp2_with fail
            go_ret
            exact ⟨by rw [decide_eq_false (list_ne hlt hlm HE.out)]; rfl, (by repeat (first | exact Grow.refl _ | assumption | refine Grow.alloc ?_ _ | refine Grow.drew ?_ | refine Grow.drewN ?_ _ | refine Grow.trans ?_ (by assumption) | refine Grow.below ?_ (by assumption) (by first | exact Nat.le_refl _ | omega)))⟩
      · have H := Lib.hid (show l = m by have h1 := HV.out; have := HL.out; rw [take_eq_all hlt, take_eq_all (by omega)] at h1; exact h1)
        go_wp2
        go_ret
        exact ⟨by rw [decide_eq_true H.out]; rfl, (by repeat (first | exact Grow.refl _ | assumption | refine Grow.alloc ?_ _ | refine Grow.drew ?_ | refine Grow.drewN ?_ _ | refine Grow.trans ?_ (by assumption) | refine Grow.below ?_ (by assumption) (by first | exact Nat.le_refl _ | omega)))⟩
  · have H := Lib.hid (decide_eq_false (fun h : l = m => hlen (by rw [h])))
    have hb : ((l.length : Int) != (m.length : Int)) = true := by simp; omega
    go_enter Tryd.func83, Tryd.ntmps83
    go_wp2
    go_ret
    exact ⟨by rw [H.out]; rfl, (by repeat (first | exact Grow.refl _ | assumption | refine Grow.alloc ?_ _ | refine Grow.drew ?_ | refine Grow.drewN ?_ _ | refine Grow.trans ?_ (by assumption) | refine Grow.below ?_ (by assumption) (by first | exact Nat.le_refl _ | omega)))⟩

theorem AssertionSame_c (A B A' B' : Option Addr) (c d c' d' : Nat) (s t : Pl.Asr) (w : World) (hS : Asrs w A B s) (hT : Asrs w A' B' t) (h1 : s.f.length ≤ 4194304) (h2 : s.a.length ≤ 4194304) (h3 : t.f.length ≤ 4194304) (h4 : t.a.length ≤ 4194304) :
    Calls Tryd.prog 35 #[asval A B c d s, asval A' B' c' d' t] w fun e w' => e = .returned (.bool (decide (s = t))) ∧ Grow w w' := by
  obtain ⟨v, h⟩ := s
  obtain ⟨v', h'⟩ := t
  have hst : decide ((⟨v, h⟩ : Pl.Asr) = ⟨v', h'⟩) = (decide (v = v') && decide (h = h')) := by rw [Bool.eq_iff_iff]; simp
  have HE := Lib.hid hst
  clear hst
  have y1 := Box2.new w 46 (.slice A v.length c) (.slice B h.length d)
  have y2 := Box2.new (w.alloc (.cells #[.slice A v.length c, .slice B h.length d] 46)) 46 (.slice A' v'.length c') (.slice B' h'.length d')
  simp only [World.size_alloc] at y2
  go_enter Tryd.func35, Tryd.ntmps35
  go_wp2_with fail
  refine (slF_c A A' c c' v v' _ (hS.v.grow (by repeat (first | exact Grow.refl _ | assumption | refine Grow.alloc ?_ _ | refine Grow.drew ?_ | refine Grow.drewN ?_ _ | refine Grow.trans ?_ (by assumption) | refine Grow.below ?_ (by assumption) (by first | exact Nat.le_refl _ | omega)))) (hT.v.grow (by repeat (first | exact Grow.refl _ | assumption | refine Grow.alloc ?_ _ | refine Grow.drew ?_ | refine Grow.drewN ?_ _ | refine Grow.trans ?_ (by assumption) | refine Grow.below ?_ (by assumption) (by first | exact Nat.le_refl _ | omega)))) (by omega) (by omega)).mono ?_
  rintro e w1 ⟨rfl, g1⟩
  have y1 := y1.grow (show Grow _ w1 from (by repeat (first | exact Grow.refl _ | assumption | refine Grow.alloc ?_ _ | refine Grow.drew ?_ | refine Grow.drewN ?_ _ | refine Grow.trans ?_ (by assumption) | refine Grow.below ?_ (by assumption) (by first | exact Nat.le_refl _ | omega))))
  have y2 := y2.grow (show Grow _ w1 from (by repeat (first | exact Grow.refl _ | assumption | refine Grow.alloc ?_ _ | refine Grow.drew ?_ | refine Grow.drewN ?_ _ | refine Grow.trans ?_ (by assumption) | refine Grow.below ?_ (by assumption) (by first | exact Nat.le_refl _ | omega))))
  obtain ⟨k0, k1, _, _⟩ := y1.facts
  obtain ⟨q0, q1, _, _⟩ := y2.facts
  by_cases hv : v = v'
  · have HV := Lib.hid (decide_eq_true hv)
    clear hv
    rw [HV.out]
    go_wp2_with fail
    refine (slA_c B B' d d' h h' _ (hS.h.grow (by repeat (first | exact Grow.refl _ | assumption | refine Grow.alloc ?_ _ | refine Grow.drew ?_ | refine Grow.drewN ?_ _ | refine Grow.trans ?_ (by assumption) | refine Grow.below ?_ (by assumption) (by first | exact Nat.le_refl _ | omega)))) (hT.h.grow (by repeat (first | exact Grow.refl _ | assumption | refine Grow.alloc ?_ _ | refine Grow.drew ?_ | refine Grow.drewN ?_ _ | refine Grow.trans ?_ (by assumption) | refine Grow.below ?_ (by assumption) (by first | exact Nat.le_refl _ | omega)))) (by omega) (by omega)).mono ?_
    rintro e w2 ⟨rfl, g2⟩
    by_cases hh : h = h'
    · have HH := Lib.hid (decide_eq_true hh)
      clear hh
      rw [HH.out]
      go_wp2_with fail
      go_ret
      exact ⟨by rw [HE.out, HV.out, HH.out]; rfl, (by repeat (first | exact Grow.refl _ | assumption | refine Grow.alloc ?_ _ | refine Grow.drew ?_ | refine Grow.drewN ?_ _ | refine Grow.trans ?_ (by assumption) | refine Grow.below ?_ (by assumption) (by first | exact Nat.le_refl _ | omega)))⟩
    · have HH := Lib.hid (decide_eq_false hh)
      clear hh
      rw [HH.out]
      go_wp2_with fail
      go_ret
      exact ⟨by rw [HE.out, HV.out, HH.out]; rfl, (by repeat (first | exact Grow.refl _ | assumption | refine Grow.alloc ?_ _ | refine Grow.drew ?_ | refine Grow.drewN ?_ _ | refine Grow.trans ?_ (by assumption) | refine Grow.below ?_ (by assumption) (by first | exact Nat.le_refl _ | omega)))⟩
  · have HV := Lib.hid (decide_eq_false hv)
    clear hv
    rw [HV.out]
    go_wp2_with fail
    go_ret
    exact ⟨by rw [HE.out, HV.out]; rfl, (by repeat (first | exact Grow.refl _ | assumption | refine Grow.alloc ?_ _ | refine Grow.drew ?_ | refine Grow.drewN ?_ _ | refine Grow.trans ?_ (by assumption) | refine Grow.below ?_ (by assumption) (by first | exact Nat.le_refl _ | omega)))⟩

end Go.Proofs.YtifdefkkofngoaaDoor
