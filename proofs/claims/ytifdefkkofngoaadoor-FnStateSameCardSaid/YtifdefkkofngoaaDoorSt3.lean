/- Contracts of the validity of states, in the program and in the reference; of the laws' own marks of states; of copies. Conditions: the lengths are far from Go's bounds. -/
import Derived.Test.YtifdefkkofngoaaDoorSt2
namespace Go.Proofs.YtifdefkkofngoaaDoor
open Go.RowKit
set_option linter.unusedVariables false

theorem al_step {α : Type} {p : α → Prop} {l : List α} {k : Nat} (h : k < l.length) (hv : ∀ f ∈ l.take k, p f) (hp : p l[k]) : ∀ f ∈ l.take (k + 1), p f := by
  intro f hf
  rw [take_snoc l k h] at hf
  rcases List.mem_append.1 hf with hf | hf
  · exact hv f hf
  · rw [List.mem_singleton.1 hf]; exact hp
theorem al_done {α : Type} {p : α → Prop} {l : List α} {k : Nat} (h : ¬ k < l.length) (hv : ∀ f ∈ l.take k, p f) : ∀ f ∈ l, p f := by rwa [take_eq_all h] at hv
theorem stv_bad1 {v h : List Int} (k : v.length ≠ 8) : Pl.stv ⟨v, h⟩ = false := by
  rw [Bool.eq_false_iff]; intro e; exact k (((Pl.stv_iff _).1 e).1.1)
theorem stv_bad2 {v h : List Int} (k : h.length ≠ 8) : Pl.stv ⟨v, h⟩ = false := by
  rw [Bool.eq_false_iff]; intro e; exact k (((Pl.stv_iff _).1 e).1.2)
theorem stv_bad3 {v h : List Int} {i : Nat} (hi : i < v.length) (k : Pl.vlB v[i] = false) : Pl.stv ⟨v, h⟩ = false := by
  rw [Bool.eq_false_iff]; intro e; have := ((Pl.stv_iff _).1 e).2.1 _ (List.getElem_mem hi); rw [k] at this; cases this
theorem stv_bad4 {v h : List Int} {i : Nat} (hi : i < h.length) (k : Pl.clB h[i] = false) : Pl.stv ⟨v, h⟩ = false := by
  rw [Bool.eq_false_iff]; intro e; have := ((Pl.stv_iff _).1 e).2.2 _ (List.getElem_mem hi); rw [k] at this; cases this
/-- The three ways of a cell's content. -/
theorem cl_ways (n : Int) : (n = -1 ∧ Pl.clB n = true ∧ (n != -1) = false) ∨ (Pl.vlB n = true ∧ Pl.clB n = true ∧ (n != -1) = true) ∨ (Pl.vlB n = false ∧ Pl.clB n = false ∧ (n != -1) = true) := by
  by_cases h1 : n = -1
  · subst h1; exact .inl ⟨rfl, rfl, rfl⟩
  · have hb : (n != -1) = true := by simp [h1]
    cases hv : Pl.vlB n with
    | true => exact .inr (.inl ⟨rfl, (Pl.clB_iff n).2 (by have := (Pl.vlB_iff n).1 hv; omega), hb⟩)
    | false =>
      refine .inr (.inr ⟨rfl, ?_, hb⟩)
      rw [Bool.eq_false_iff]; intro e
      have h2 := (Pl.clB_iff n).1 e
      rw [(Pl.vlB_iff n).2 (by omega)] at hv; cases hv

set_option maxHeartbeats 800000 in
theorem StateValid_c (A B : Option Addr) (c d : Nat) (s : Pl.St) (w : World) (hS : Sts w A B s) (h1 : s.v.length ≤ 4194304) (h2 : s.h.length ≤ 4194304) :
    Calls Tryd.prog 19 #[sval A B c d s] w fun e w' => e = .returned (.bool (Pl.stv s)) ∧ Grow w w' := by
  obtain ⟨v, h⟩ := s
  have IA : Ints w A v := hS.v
  have IB : Ints w B h := hS.h
  by_cases hv : v.length = 8
  · by_cases hh : h.length = 8
    · have V8 := Lib.hid hv
      have H8 := Lib.hid hh
      show Calls Tryd.prog 19 #[.agg #[.slice A v.length c, .slice B h.length d]] w _
      rw [hv, hh]
      clear hv hh hS h1 h2
      go_enter Tryd.func19, Tryd.ntmps19
      go_wp2
      go_loopw [20] (fun i wr => ∃ k : Nat, k ≤ 8 ∧ i = .int .i64 k ∧ (∀ n ∈ v.take k, Pl.vlB n = true) ∧ Grow (w.alloc (.cells #[.slice A 8 c, .slice B 8 d] 27)) wr) (fun i _ => 8 - (intOf i).toNat)
      case atStart => exact ⟨0, by omega, rfl, by simp, Grow.refl _⟩
      case round =>
        obtain ⟨k, hk, rfl, hall, hg⟩ := hrel
        have HA := Lib.hid hall
        clear hall
        have hg0 : Grow w wr := (Grow.alloc (Grow.refl w) _).trans hg
        by_cases hlt : k < 8
        · have hkl : k < v.length := by rw [V8.out]; exact hlt
          obtain ⟨b, off, rfl, c0⟩ := (IA.grow hg0).at_ hkl
          clear hg0
          cases hp : Pl.vlB v[k] with
          | true =>
            have HP := Lib.hid hp
            clear hp
            go_wp2_with (go_at_call 55; refine (isValue_c v[k] _).mono ?_; rintro e w' ⟨rfl, rfl⟩; rw [HP.out])
            go_roundw
            case rel => exact ⟨k + 1, by omega, by go_num, al_step hkl HA.out HP.out, (by repeat (first | exact Grow.refl _ | assumption | refine Grow.alloc ?_ _ | refine Grow.drew ?_ | refine Grow.drewN ?_ _ | refine Grow.trans ?_ (by assumption) | refine Grow.below ?_ (by assumption) (by first | exact Nat.le_refl _ | omega)))⟩
            case measure => simp [intOf]; omega
          | false =>
            have HP := Lib.hid hp
            clear hp
            have HX := Lib.hid (stv_bad3 (h := h) hkl HP.out)
            go_wp2_with (go_at_call 55; refine (isValue_c v[k] _).mono ?_; rintro e w' ⟨rfl, rfl⟩; rw [HP.out])
            go_ret
            exact ⟨by rw [HX.out]; rfl, (Grow.alloc (Grow.refl w) _).trans hg⟩
        · have HV := Lib.hid (al_done (by rw [V8.out]; exact hlt) HA.out)
          obtain ⟨k0, k1, _, _⟩ := ((Box2.new w 27 (.slice A 8 c) (.slice B 8 d)).grow hg).facts
          clear hg
          go_wp2
          obtain ⟨wo, rfl⟩ : ∃ wo : World, wo = wr := ⟨_, rfl⟩
          go_loopw [31] (fun i wr => ∃ k : Nat, k ≤ 8 ∧ i = .int .i64 k ∧ (∀ n ∈ h.take k, Pl.clB n = true) ∧ Grow w wr) (fun i _ => 8 - (intOf i).toNat)
          case atStart => exact ⟨0, by omega, rfl, by simp, hg0⟩
          case round =>
            obtain ⟨j, hj, rfl, hall, hg⟩ := hrel
            have HB := Lib.hid hall
            clear hall
            by_cases hjl : j < 8
            · have hkl : j < h.length := by rw [H8.out]; exact hjl
              obtain ⟨b, off, rfl, c0⟩ := (IB.grow hg).at_ hkl
              rcases cl_ways h[j] with ⟨_, q2, q3⟩ | ⟨q1, q2, q3⟩ | ⟨q1, q2, q3⟩
              · have Q2 := Lib.hid q2
                clear q2
                go_wp2_with fail
                go_roundw
                case rel => exact ⟨j + 1, by omega, by go_num, al_step hkl HB.out Q2.out, (by repeat (first | exact Grow.refl _ | assumption | refine Grow.alloc ?_ _ | refine Grow.drew ?_ | refine Grow.drewN ?_ _ | refine Grow.trans ?_ (by assumption) | refine Grow.below ?_ (by assumption) (by first | exact Nat.le_refl _ | omega)))⟩
                case measure => simp [intOf]; omega
              · have Q1 := Lib.hid q1
                have Q2 := Lib.hid q2
                clear q1 q2
                go_wp2_with (go_at_call 55; refine (isValue_c h[j] _).mono ?_; rintro e w' ⟨rfl, rfl⟩; rw [Q1.out])
                go_roundw
                case rel => exact ⟨j + 1, by omega, by go_num, al_step hkl HB.out Q2.out, (by repeat (first | exact Grow.refl _ | assumption | refine Grow.alloc ?_ _ | refine Grow.drew ?_ | refine Grow.drewN ?_ _ | refine Grow.trans ?_ (by assumption) | refine Grow.below ?_ (by assumption) (by first | exact Nat.le_refl _ | omega)))⟩
                case measure => simp [intOf]; omega
              · have Q1 := Lib.hid q1
                have HX := Lib.hid (stv_bad4 (v := v) hkl q2)
                clear q1 q2
                go_wp2_with (go_at_call 55; refine (isValue_c h[j] _).mono ?_; rintro e w' ⟨rfl, rfl⟩; rw [Q1.out])
                go_ret
                exact ⟨by rw [HX.out]; rfl, (by repeat (first | exact Grow.refl _ | assumption | refine Grow.alloc ?_ _ | refine Grow.drew ?_ | refine Grow.drewN ?_ _ | refine Grow.trans ?_ (by assumption) | refine Grow.below ?_ (by assumption) (by first | exact Nat.le_refl _ | omega)))⟩
            · have HX := Lib.hid (show Pl.stv ⟨v, h⟩ = true from (Pl.stv_iff _).2 ⟨⟨V8.out, H8.out⟩, HV.out, al_done (by rw [H8.out]; exact hjl) HB.out⟩)
              go_wp2
              go_ret
              exact ⟨by rw [HX.out]; rfl, (by repeat (first | exact Grow.refl _ | assumption | refine Grow.alloc ?_ _ | refine Grow.drew ?_ | refine Grow.drewN ?_ _ | refine Grow.trans ?_ (by assumption) | refine Grow.below ?_ (by assumption) (by first | exact Nat.le_refl _ | omega)))⟩
    · have HX := Lib.hid (stv_bad2 (v := v) hh)
      have hb0 : ((v.length : Int) != 8) = false := by simp; omega
      have hb1 : ((h.length : Int) != 8) = true := by simp; omega
      clear hv hh
      go_enter Tryd.func19, Tryd.ntmps19
      go_wp2
      go_ret
      exact ⟨by rw [HX.out]; rfl, (by repeat (first | exact Grow.refl _ | assumption | refine Grow.alloc ?_ _ | refine Grow.drew ?_ | refine Grow.drewN ?_ _ | refine Grow.trans ?_ (by assumption) | refine Grow.below ?_ (by assumption) (by first | exact Nat.le_refl _ | omega)))⟩
  · have HX := Lib.hid (stv_bad1 (h := h) hv)
    have hb0 : ((v.length : Int) != 8) = true := by simp; omega
    clear hv
    go_enter Tryd.func19, Tryd.ntmps19
    go_wp2
    go_ret
    exact ⟨by rw [HX.out]; rfl, (by repeat (first | exact Grow.refl _ | assumption | refine Grow.alloc ?_ _ | refine Grow.drew ?_ | refine Grow.drewN ?_ _ | refine Grow.trans ?_ (by assumption) | refine Grow.below ?_ (by assumption) (by first | exact Nat.le_refl _ | omega)))⟩

set_option maxHeartbeats 800000 in
theorem sStateValid_c (A B : Option Addr) (c d : Nat) (s : Pl.St) (w : World) (hS : Sts w A B s) (h1 : s.v.length ≤ 4194304) (h2 : s.h.length ≤ 4194304) :
    Calls Tryd.prog 20 #[sval A B c d s] w fun e w' => e = .returned (.bool (Pl.stv s)) ∧ Grow w w' := by
  obtain ⟨v, h⟩ := s
  have IA : Ints w A v := hS.v
  have IB : Ints w B h := hS.h
  replace h1 : v.length ≤ 4194304 := h1
  replace h2 : h.length ≤ 4194304 := h2
  clear hS
  go_enter Tryd.func20, Tryd.ntmps20
  go_wp2
  go_loopw [3] (fun i wr => ∃ k : Nat, k ≤ v.length ∧ i = .int .i64 k ∧ (∀ n ∈ v.take k, Pl.vlB n = true) ∧ Grow (w.alloc (.cells #[.slice A v.length c, .slice B h.length d] 27)) wr) (fun i _ => v.length - (intOf i).toNat)
  case atStart => exact ⟨0, by omega, rfl, by simp, Grow.refl _⟩
  case round =>
    obtain ⟨k, hk, rfl, hall, hg⟩ := hrel
    have HA := Lib.hid hall
    clear hall
    have hg0 : Grow w wr := (Grow.alloc (Grow.refl w) _).trans hg
    obtain ⟨k0, k1, _, _⟩ := ((Box2.new w 27 (.slice A v.length c) (.slice B h.length d)).grow hg).facts
    by_cases hlt : k < v.length
    · obtain ⟨b, off, rfl, c0⟩ := (IA.grow hg0).at_ hlt
      cases hp : Pl.vlB v[k] with
      | true =>
        have HP := Lib.hid hp
        clear hp
        go_wp2_with (go_at_call 56; refine (l2Addr_c v[k] _).mono ?_; rintro e w' ⟨rfl, rfl⟩; rw [HP.out])
        go_roundw
        case rel => exact ⟨k + 1, by omega, by go_num, al_step hlt HA.out HP.out, (by repeat (first | exact Grow.refl _ | assumption | refine Grow.alloc ?_ _ | refine Grow.drew ?_ | refine Grow.drewN ?_ _ | refine Grow.trans ?_ (by assumption) | refine Grow.below ?_ (by assumption) (by first | exact Nat.le_refl _ | omega)))⟩
        case measure => simp [intOf]; omega
      | false =>
        have HP := Lib.hid hp
        clear hp
        have HX := Lib.hid (stv_bad3 (h := h) hlt HP.out)
        go_wp2_with (go_at_call 56; refine (l2Addr_c v[k] _).mono ?_; rintro e w' ⟨rfl, rfl⟩; rw [HP.out])
        go_ret
        exact ⟨by rw [HX.out]; rfl, (by repeat (first | exact Grow.refl _ | assumption | refine Grow.alloc ?_ _ | refine Grow.drew ?_ | refine Grow.drewN ?_ _ | refine Grow.trans ?_ (by assumption) | refine Grow.below ?_ (by assumption) (by first | exact Nat.le_refl _ | omega)))⟩
    · have HV := Lib.hid (al_done hlt HA.out)
      go_wp2
      obtain ⟨wo, rfl⟩ : ∃ wo : World, wo = wr := ⟨_, rfl⟩
      have hgo := hg
      clear hg k0 k1
      go_loopw [4] (fun i wr => ∃ k : Nat, k ≤ h.length ∧ i = .int .i64 k ∧ (∀ n ∈ h.take k, Pl.clB n = true) ∧ Grow (w.alloc (.cells #[.slice A v.length c, .slice B h.length d] 27)) wr) (fun i _ => h.length - (intOf i).toNat)
      case atStart => exact ⟨0, by omega, rfl, by simp, hgo⟩
      case round =>
        obtain ⟨j, hj, rfl, hall, hg⟩ := hrel
        have HB := Lib.hid hall
        clear hall hg0 hgo
        have hg0 : Grow w wr := (Grow.alloc (Grow.refl w) _).trans hg
        obtain ⟨k0, k1, _, _⟩ := ((Box2.new w 27 (.slice A v.length c) (.slice B h.length d)).grow hg).facts
        by_cases hjl : j < h.length
        · obtain ⟨b, off, rfl, c0⟩ := (IB.grow hg0).at_ hjl
          rcases cl_ways h[j] with ⟨_, q2, q3⟩ | ⟨q1, q2, q3⟩ | ⟨q1, q2, q3⟩
          · have Q2 := Lib.hid q2
            clear q2
            go_wp2_with fail
            go_roundw
            case rel => exact ⟨j + 1, by omega, by go_num, al_step hjl HB.out Q2.out, (by repeat (first | exact Grow.refl _ | assumption | refine Grow.alloc ?_ _ | refine Grow.drew ?_ | refine Grow.drewN ?_ _ | refine Grow.trans ?_ (by assumption) | refine Grow.below ?_ (by assumption) (by first | exact Nat.le_refl _ | omega)))⟩
            case measure => simp [intOf]; omega
          · have Q1 := Lib.hid q1
            have Q2 := Lib.hid q2
            clear q1 q2
            go_wp2_with (go_at_call 56; refine (l2Addr_c h[j] _).mono ?_; rintro e w' ⟨rfl, rfl⟩; rw [Q1.out])
            go_roundw
            case rel => exact ⟨j + 1, by omega, by go_num, al_step hjl HB.out Q2.out, (by repeat (first | exact Grow.refl _ | assumption | refine Grow.alloc ?_ _ | refine Grow.drew ?_ | refine Grow.drewN ?_ _ | refine Grow.trans ?_ (by assumption) | refine Grow.below ?_ (by assumption) (by first | exact Nat.le_refl _ | omega)))⟩
            case measure => simp [intOf]; omega
          · have Q1 := Lib.hid q1
            have HX := Lib.hid (stv_bad4 (v := v) hjl q2)
            clear q1 q2
            go_wp2_with (go_at_call 56; refine (l2Addr_c h[j] _).mono ?_; rintro e w' ⟨rfl, rfl⟩; rw [Q1.out])
            go_ret
            exact ⟨by rw [HX.out]; rfl, (by repeat (first | exact Grow.refl _ | assumption | refine Grow.alloc ?_ _ | refine Grow.drew ?_ | refine Grow.drewN ?_ _ | refine Grow.trans ?_ (by assumption) | refine Grow.below ?_ (by assumption) (by first | exact Nat.le_refl _ | omega)))⟩
        · have HB2 := Lib.hid (al_done hjl HB.out)
          by_cases hv : v.length = 8
          · by_cases hh : h.length = 8
            · have HX := Lib.hid (show Pl.stv ⟨v, h⟩ = true from (Pl.stv_iff _).2 ⟨⟨hv, hh⟩, HV.out, HB2.out⟩)
              have b0 : ((v.length : Int) == 8) = true := by simp; omega
              have b1 : ((h.length : Int) == 8) = true := by simp; omega
              clear hv hh
              go_wp2
              go_ret
              exact ⟨by rw [HX.out]; rfl, (by repeat (first | exact Grow.refl _ | assumption | refine Grow.alloc ?_ _ | refine Grow.drew ?_ | refine Grow.drewN ?_ _ | refine Grow.trans ?_ (by assumption) | refine Grow.below ?_ (by assumption) (by first | exact Nat.le_refl _ | omega)))⟩
            · have HX := Lib.hid (stv_bad2 (v := v) hh)
              have b0 : ((v.length : Int) == 8) = true := by simp; omega
              have b1 : ((h.length : Int) == 8) = false := by simp; omega
              clear hv hh
              go_wp2
              go_ret
              exact ⟨by rw [HX.out]; rfl, (by repeat (first | exact Grow.refl _ | assumption | refine Grow.alloc ?_ _ | refine Grow.drew ?_ | refine Grow.drewN ?_ _ | refine Grow.trans ?_ (by assumption) | refine Grow.below ?_ (by assumption) (by first | exact Nat.le_refl _ | omega)))⟩
          · have HX := Lib.hid (stv_bad1 (h := h) hv)
            have b0 : ((v.length : Int) == 8) = false := by simp; omega
            clear hv
            go_wp2
            go_ret
            exact ⟨by rw [HX.out]; rfl, (by repeat (first | exact Grow.refl _ | assumption | refine Grow.alloc ?_ _ | refine Grow.drew ?_ | refine Grow.drewN ?_ _ | refine Grow.trans ?_ (by assumption) | refine Grow.below ?_ (by assumption) (by first | exact Nat.le_refl _ | omega)))⟩

theorem oints_mark {w : World} {lo c k n : Nat} {A : Option Addr} (h : OInts w lo (.slice A n c) (markI k n)) : OInts w lo (.slice A (markI k n).length c) (markI k n) := by
  rw [markI_len]; exact h
theorem markState_c (A B : Option Addr) (c d lo : Nat) (s : Pl.St) (k : Nat) (w : World) (hS : OSt w lo A B c d s) (h1 : s.v.length ≤ 4194304) (h2 : s.h.length ≤ 4194304) (hk : k ≤ 4611686018) :
    Calls Tryd.prog 16 #[sval A B c d s, .int .i64 k] w fun e w' => e = .returned (.int .i64 ((k + s.v.length + s.h.length : Nat) : Int)) ∧ OSt w' lo A B c d ⟨markI k s.v.length, markI (k + s.v.length) s.h.length⟩ ∧
      ∃ w1 w2, Grow w w1 ∧ w1.grownBy w2 (Value.slice A s.v.length c).ownBlock ∧ w2.grownBy w' (Value.slice B s.h.length d).ownBlock := by
  obtain ⟨v, h⟩ := s
  obtain ⟨ov, oh, ap⟩ := hS
  replace ov : OInts w lo (.slice A v.length c) v := ov
  replace oh : OInts w lo (.slice B h.length d) h := oh
  replace ap : ∀ k, (Value.slice A v.length c).ownBlock = some k → (Value.slice B h.length d).ownBlock ≠ some k := ap
  replace h1 : v.length ≤ 4194304 := h1
  replace h2 : h.length ≤ 4194304 := h2
  have bA := own_blk ov
  have bB := own_blk oh
  go_enter Tryd.func16, Tryd.ntmps16
  go_wp2_with fail
  refine (markIntS_c A c lo v k _ (own_grow ov (by repeat (first | exact Grow.refl _ | assumption | refine Grow.alloc ?_ _ | refine Grow.drew ?_ | refine Grow.drewN ?_ _ | refine Grow.trans ?_ (by assumption) | refine Grow.below ?_ (by assumption) (by first | exact Nat.le_refl _ | omega)))) h1 (by omega)).mono ?_
  rintro e w1 ⟨rfl, m1, r1⟩
  have y1 := (Box2.new w 27 (.slice A v.length c) (.slice B h.length d)).kept r1 (fun e => by have := bA _ e; omega)
  obtain ⟨k0, k1, _, _⟩ := y1.facts
  have oh1 : OInts w1 lo (.slice B h.length d) h := own_kept (own_grow oh (by repeat (first | exact Grow.refl _ | assumption | refine Grow.alloc ?_ _ | refine Grow.drew ?_ | refine Grow.drewN ?_ _ | refine Grow.trans ?_ (by assumption) | refine Grow.below ?_ (by assumption) (by first | exact Nat.le_refl _ | omega)))) r1 (fun k hk e => ap k e hk)
  clear y1
  go_wp2_with fail
  refine (markIntS_c B d lo h (k + v.length) _ oh1 h2 (by omega)).mono ?_
  rintro e w2 ⟨rfl, m2, r2⟩
  have mA : OInts w2 lo (.slice A v.length c) (markI k v.length) := own_kept m1 r2 (fun k hk e => ap k hk e)
  go_wp2_with fail
  go_ret
  exact ⟨rfl, ⟨oints_mark mA, oints_mark m2, by rw [markI_len, markI_len]; exact ap⟩, _, _, Grow.alloc (Grow.refl w) _, r1, r2⟩

theorem heldState_c (A B : Option Addr) (c d k n m : Nat) (w : World) (hA : Ints w A (markI k n)) (hB : Ints w B (markI (k + n) m)) (hn : n ≤ 4194304) (hm : m ≤ 4194304) (hk : k ≤ 4611686018) :
    Calls Tryd.prog 17 #[.agg #[.slice A n c, .slice B m d], .int .i64 k] w fun e w' => e = .returned (.int .i64 ((k + n + m : Nat) : Int)) ∧ Grow w w' := by
  go_enter Tryd.func17, Tryd.ntmps17
  go_wp2_with fail
  refine (heldIntS_c A c k n _ (hA.grow (by repeat (first | exact Grow.refl _ | assumption | refine Grow.alloc ?_ _ | refine Grow.drew ?_ | refine Grow.drewN ?_ _ | refine Grow.trans ?_ (by assumption) | refine Grow.below ?_ (by assumption) (by first | exact Nat.le_refl _ | omega)))) hn (by omega)).mono ?_
  rintro e w1 ⟨rfl, rfl⟩
  go_wp2_with fail
  refine (heldIntS_c B d (k + n) m _ (hB.grow (by repeat (first | exact Grow.refl _ | assumption | refine Grow.alloc ?_ _ | refine Grow.drew ?_ | refine Grow.drewN ?_ _ | refine Grow.trans ?_ (by assumption) | refine Grow.below ?_ (by assumption) (by first | exact Nat.le_refl _ | omega)))) hm (by omega)).mono ?_
  rintro e w2 ⟨rfl, rfl⟩
  go_wp2_with fail
  go_ret
  exact ⟨rfl, (by repeat (first | exact Grow.refl _ | assumption | refine Grow.alloc ?_ _ | refine Grow.drew ?_ | refine Grow.drewN ?_ _ | refine Grow.trans ?_ (by assumption) | refine Grow.below ?_ (by assumption) (by first | exact Nat.le_refl _ | omega)))⟩

end Go.Proofs.YtifdefkkofngoaaDoor
