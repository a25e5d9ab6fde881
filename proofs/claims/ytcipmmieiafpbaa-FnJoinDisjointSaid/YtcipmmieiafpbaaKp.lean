/- Contracts of keeping and dropping cells of a state, in the program and in the reference. Conditions: the lengths are far from Go's bounds. -/
import Derived.Test.YtcipmmieiafpbaaCel
namespace Go.Proofs.Ytcipmmieiafpbaa
open Go.RowKit
set_option linter.unusedVariables false

/-- What a choice of cells gives in the program. -/
def RSet (r : Option (Int → Bool)) (e : Ending) : Prop := match r with
  | none => e = .returned (.tuple #[.int .u16 0, .bool false])
  | some p => ∃ m : Nat, e = .returned (.tuple #[.int .u16 (m : Int), .bool true]) ∧ TI m p
theorem RSet.no {r : Option (Int → Bool)} {e : Ending} (h : r = none) (he : e = .returned (.tuple #[.int .u16 0, .bool false])) : RSet r e := by subst h; exact he
theorem RSet.yes {r : Option (Int → Bool)} {p : Int → Bool} {m : Nat} {e : Ending} (h : r = some p) (he : e = .returned (.tuple #[.int .u16 (m : Int), .bool true])) (ht : TI m p) : RSet r e := by subst h; exact ⟨m, he, ht⟩
theorem chP_no1 {h : List Int} {n : Int} {l : List Int} {p : Int → Bool} (hb : Pl.hasB h n = false) : Pl.chosenP.chP h (n :: l) p = none := by unfold Pl.chosenP.chP; rw [hb]; rfl
theorem chP_no2 {h : List Int} {n : Int} {l : List Int} {p : Int → Bool} (hb : p n = true) : Pl.chosenP.chP h (n :: l) p = none := by unfold Pl.chosenP.chP; rw [hb, Bool.not_true, Bool.and_false]; rfl
theorem chP_on {h : List Int} {n : Int} {l : List Int} {p : Int → Bool} (hb : Pl.hasB h n = true) (hp : p n = false) : Pl.chosenP.chP h (n :: l) p = Pl.chosenP.chP h l fun t => p t || decide (t = n) := by
  conv => lhs; unfold Pl.chosenP.chP
  rw [hb, hp]; rfl
theorem drop_at {α : Type} {l : List α} {k : Nat} (h : k < l.length) : l.drop k = l[k] :: l.drop (k + 1) := List.drop_eq_getElem_cons h

set_option maxRecDepth 100000 in
set_option maxHeartbeats 1600000 in
theorem chosenCells_c (A B A9 : Option Addr) (c d c9 : Nat) (s : Pl.St) (l : List Int) (w : World) (hS : Sts w A B s) (hL : Ints w A9 l) (h1 : s.v.length ≤ 4194304) (h2 : s.h.length ≤ 4194304) (hl : l.length ≤ 4194304) :
    Calls Try.prog 55 #[sval A B c d s, .slice A9 l.length c9] w fun e w' => RSet (Pl.chosenP s l) e ∧ Grow w w' := by
  obtain ⟨v, h⟩ := s
  obtain ⟨R, hR⟩ : ∃ R, R = Pl.chosenP ⟨v, h⟩ l := ⟨_, rfl⟩
  rw [← hR]
  have HR := Lib.hid hR
  clear hR
  have y1 := Box2.new w 30 (.slice A v.length c) (.slice B h.length d)
  go_enter Try.func55, Try.ntmps55
  go_wp2_with fail
  refine (StateValid_c A B c d ⟨v, h⟩ _ (hS.grow (by repeat (first | exact Grow.refl _ | assumption | refine Grow.alloc ?_ _ | refine Grow.drew ?_ | refine Grow.drewN ?_ _ | refine Grow.trans ?_ (by assumption) | refine Grow.below ?_ (by assumption) (by first | exact Nat.le_refl _ | omega)))) h1 h2).mono ?_
  rintro e w1 ⟨rfl, g1⟩
  cases hs : Pl.stv ⟨v, h⟩ with
  | false =>
    have HX := Lib.hid (show R = none by rw [HR.out]; unfold Pl.chosenP; rw [hs]; rfl)
    clear hs
    go_wp2_with fail
    go_ret2
    exact ⟨RSet.no HX.out rfl, (by repeat (first | exact Grow.refl _ | assumption | refine Grow.alloc ?_ _ | refine Grow.drew ?_ | refine Grow.drewN ?_ _ | refine Grow.trans ?_ (by assumption) | refine Grow.below ?_ (by assumption) (by first | exact Nat.le_refl _ | omega)))⟩
  | true =>
    have HX := Lib.hid (show Pl.chosenP.chP h l Pl.noP = R by rw [HR.out]; unfold Pl.chosenP; rw [hs]; rfl)
    have hh8 := Lib.hid (show h.length = 8 from Pl.stv_h hs)
    have IB : Ints w B h := hS.h
    have G : Grow w w1 := (by repeat (first | exact Grow.refl _ | assumption | refine Grow.alloc ?_ _ | refine Grow.drew ?_ | refine Grow.drewN ?_ _ | refine Grow.trans ?_ (by assumption) | refine Grow.below ?_ (by assumption) (by first | exact Nat.le_refl _ | omega)))
    replace y1 := y1.grow g1
    clear hs hS g1
    go_wp2_with fail
    go_loopw [6, 14] (fun q i wr => ∃ (k m : Nat) (p : Int → Bool), k ≤ l.length ∧ i = .int .i64 k ∧ q = .int .u16 (m : Int) ∧ TI m p ∧ Hid (Pl.chosenP.chP h (l.drop k) p = R) ∧ Grow w wr ∧ Box2 wr w.heap.size 30 (.slice A v.length c) (.slice B h.length d)) (fun _ i _ => l.length - (intOf i).toNat)
    case atStart => exact ⟨0, 0, Pl.noP, Nat.zero_le _, rfl, rfl, TI.zero, HX, G, y1⟩
    case round =>
      clear G y1 HX
      obtain ⟨k, m, p, hk, rfl, rfl, ht, HP, G, y1⟩ := hrel
      by_cases hlt : k < l.length
      · obtain ⟨b, off, rfl, c0⟩ := (hL.grow G).at_ hlt
        obtain ⟨k0, k1, _, _⟩ := y1.facts
        have HD := Lib.hid (show Pl.chosenP.chP h (l[k] :: l.drop (k + 1)) p = R by rw [← drop_at hlt]; exact HP.out)
        cases hb : Pl.hasB h l[k] with
        | false =>
          have HB := Lib.hid hb
          have HN := Lib.hid (show R = none from HD.out.symm.trans (chP_no1 hb))
          clear hb
          go_wp2_with fail
          refine (allocated_c A B v.length c d h l[k] _ (IB.grow G) hh8.out).mono ?_
          rintro e w2 ⟨rfl, g2⟩
          rw [HB.out]
          go_wp2_with fail
          go_ret2
          exact ⟨RSet.no HN.out rfl, G.trans g2⟩
        | true =>
          have HB := Lib.hid hb
          have har := Pl.has_ad hb
          obtain ⟨t, hte⟩ : ∃ t : Nat, l[k] = (t : Int) := ⟨l[k].toNat, by omega⟩
          have ht8 : t ≤ 8 := by omega
          have ht1 : 1 ≤ t := by omega
          have HTE := Lib.hid hte
          rw [hte] at c0
          clear hb har hte
          go_wp2_with fail
          refine (allocated_c A B v.length c d h (t : Int) _ (IB.grow G) hh8.out).mono ?_
          rintro e w2 ⟨rfl, g2⟩
          rw [show Pl.hasB h (t : Int) = true by rw [← HTE.out]; exact HB.out]
          replace G := G.trans g2
          replace y1 := y1.grow g2
          clear k0 k1 g2 c0
          cases hp : p (t : Int) with
          | true =>
            have HN := Lib.hid (show R = none from HD.out.symm.trans (chP_no2 (by rw [HTE.out]; exact hp)))
            have HPP := Lib.hid (show (Pl.adB (t : Int) && p (t : Int)) = true by rw [hp, (Pl.adB_iff _).2 (by omega)]; rfl)
            clear hp
            go_wp2_with fail
            refine (chas_c m p (t : Int) _ ht.tb).mono ?_
            rintro e w3 ⟨rfl, rfl⟩
            rw [HPP.out]
            go_wp2_with fail
            go_ret2
            exact ⟨RSet.no HN.out rfl, G⟩
          | false =>
            have HPP := Lib.hid (show (Pl.adB (t : Int) && p (t : Int)) = false by rw [hp, Bool.and_false])
            have HN := Lib.hid (show Pl.chosenP.chP h (l.drop (k + 1)) (fun x => p x || decide (x = (t : Int))) = R by rw [← HTE.out]; rw [← HD.out]; exact (chP_on HB.out (by rw [HTE.out]; exact hp)).symm)
            have HT := Lib.hid (ht.add ht8)
            have E := Lib.hid (or_bit ht ht8)
            clear hp
            go_wp2_with fail
            refine (chas_c m p (t : Int) _ ht.tb).mono ?_
            rintro e w3 ⟨rfl, rfl⟩
            rw [HPP.out]
            clear ht
            go_wp2_with fail
            go_roundw
            case rel => exact ⟨k + 1, _, _, by omega, by go_num, by rw [← E.out], HT.out, HN, G, y1⟩
            case measure => simp [intOf]; omega
      · have HN := Lib.hid (show R = some p by rw [← HP.out, List.drop_of_length_le (by omega)]; rfl)
        have HT := Lib.hid ht
        clear ht
        go_wp2_with fail
        go_ret2
        exact ⟨RSet.yes HN.out rfl HT.out, G⟩

/-- A state that the call made. -/
def RS1 (w : World) (s : Pl.St) (e : Ending) (w' : World) : Prop := ∃ A B c d, e = .returned (sval A B c d s) ∧ OSt w' w.heap.size A B c d s ∧ Grow w w'


set_option maxRecDepth 100000 in
set_option maxHeartbeats 1600000 in
theorem stateWith_c (A B : Option Addr) (c d n : Nat) (s : Pl.St) (p : Int → Bool) (w : World) (hS : Sts w A B s) (hs : Pl.stv s = true) (hp : TB n p) :
    Calls Try.prog 56 #[sval A B c d s, .int .u16 (n : Int)] w (RS1 w ⟨s.v, Pl.onlyTo p 8 s.h⟩) := by
  obtain ⟨v, h⟩ := s
  have hh8 := Lib.hid (show h.length = 8 from Pl.stv_h hs)
  have h1 : v.length ≤ 4194304 := by have := Pl.stv_v hs; simp only at this; omega
  have h2 : h.length ≤ 4194304 := by have := hh8.out; omega
  clear hs
  have y1 := Box2.new (w.alloc (.cells #[.slice A v.length c, .slice B h.length d] 30)) 30 (.slice none 0 0) (.slice none 0 0)
  simp only [World.size_alloc] at y1
  go_enter Try.func56, Try.ntmps56
  go_wp2_with fail
  refine (copyState_c A B c d ⟨v, h⟩ _ (hS.grow (by repeat (first | exact Grow.refl _ | assumption | refine Grow.alloc ?_ _ | refine Grow.drew ?_ | refine Grow.drewN ?_ _ | refine Grow.trans ?_ (by assumption) | refine Grow.below ?_ (by assumption) (by first | exact Nat.le_refl _ | omega)))) h1 h2).mono ?_
  rintro e w1 ⟨A1, B1, c1, d1, rfl, o1, g1⟩
  have G : Grow w w1 := (by repeat (first | exact Grow.refl _ | assumption | refine Grow.alloc ?_ _ | refine Grow.drew ?_ | refine Grow.drewN ?_ _ | refine Grow.trans ?_ (by assumption) | refine Grow.below ?_ (by assumption) (by first | exact Nat.le_refl _ | omega)))
  have hz1 := g1.le
  simp only [World.size_alloc] at hz1 o1
  replace y1 := y1.grow g1
  obtain ⟨gB, rfl, hgl, hgs⟩ := own_some o1.h (by show 0 < h.length; have := hh8.out; omega)
  clear g1 hS
  have y2 := Box2.new w1 30 (.slice A1 v.length c1) (.slice (some ⟨gB, 0, none⟩) h.length d1)
  have q : Grow w1 (w1.alloc (.cells #[.slice A1 v.length c1, .slice (some ⟨gB, 0, none⟩) h.length d1] 30)) := (by repeat (first | exact Grow.refl _ | assumption | refine Grow.alloc ?_ _ | refine Grow.drew ?_ | refine Grow.drewN ?_ _ | refine Grow.trans ?_ (by assumption) | refine Grow.below ?_ (by assumption) (by first | exact Nat.le_refl _ | omega)))
  replace y1 := y1.grow q
  replace o1 := o1.grow q
  replace G := G.trans q
  have hz2 := y2.lt
  clear q
  go_wp2_with fail
  generalize w1.alloc (.cells #[.slice A1 v.length c1, .slice (some ⟨gB, 0, none⟩) h.length d1] 30) = w2 at *
  go_loopw [6] (fun i wr => ∃ (k : Nat) (u : List Int), k ≤ 8 ∧ i = .int .i64 ((k : Int) + 1) ∧ Hid (u = Pl.onlyTo p k h) ∧ Grow w wr ∧ w1.heap.size < wr.heap.size ∧ Box2 wr (w.heap.size + 1) 30 (.slice none 0 0) (.slice none 0 0) ∧ Box2 wr w1.heap.size 30 (.slice A1 v.length c1) (.slice (some ⟨gB, 0, none⟩) u.length d1) ∧ OSt wr (w.heap.size + 1 + 1) A1 (some ⟨gB, 0, none⟩) c1 d1 ⟨v, u⟩) (fun i _ => 9 - (intOf i).toNat)
  case atStart => exact ⟨0, h, by omega, rfl, Lib.hid (Pl.onlyTo_zero p h).symm, G, hz2, y1, y2, o1⟩
  case round =>
    clear G y1 y2 o1 hz2
    obtain ⟨k, u, hk, rfl, HU, G, hz2, y1, y2, o1⟩ := hrel
    by_cases hlt : k < 8
    · have hk1 : (k : Int) + 1 ≤ 8 := by omega
      cases hpk : p ((k : Int) + 1) with
      | true =>
        have HPP := Lib.hid (show (Pl.adB ((k : Int) + 1) && p ((k : Int) + 1)) = true by rw [hpk, (Pl.adB_iff _).2 (by omega)]; rfl)
        have HV := Lib.hid (show u = Pl.onlyTo p (k + 1) h by rw [Pl.onlyTo_keep hpk]; exact HU.out)
        clear hpk
        go_wp2_with fail
        refine (chas_c n p _ _ hp).mono ?_
        rintro e w3 ⟨rfl, rfl⟩
        rw [HPP.out]
        go_wp2_with fail
        go_roundw
        case rel => exact ⟨k + 1, u, by omega, by go_num, HV, G, hz2, y1, y2, o1⟩
        case measure => simp [intOf]; omega
      | false =>
        have HPP := Lib.hid (show (Pl.adB ((k : Int) + 1) && p ((k : Int) + 1)) = false by rw [hpk, Bool.and_false])
        have HV := Lib.hid (show u.set k (-1) = Pl.onlyTo p (k + 1) h by rw [Pl.onlyTo_drop hpk, HU.out])
        have hku : k < u.length := by rw [HU.out, Pl.onlyTo_len, hh8.out]; omega
        have hku2 : (k : Int) < (u.length : Int) := by omega
        clear hpk
        obtain ⟨k0, k1, e0, e1⟩ := y2.facts
        obtain ⟨u0, c0⟩ : ∃ x, wr.cell? ⟨gB, k, none⟩ = some x := ⟨_, own_cellAt o1.h (show (u.map (Value.int .i64))[k]? = some (.int .i64 u[k]) by simp [hku])⟩
        have f0 := World.ownsRow.frozenAt o1.h k
        go_wp2_with fail
        refine (chas_c n p _ _ hp).mono ?_
        rintro e w3 ⟨rfl, rfl⟩
        rw [HPP.out]
        go_wp2_with fail
        go_roundw
        case rel => exact ⟨k + 1, u.set k (-1), by omega, by go_num, HV, G.setCell (by show w.heap.size ≤ gB; omega) _, by show w1.heap.size < (wr.setCell _ _).heap.size; simp [World.setCell]; omega, y1.far (by show w.heap.size + 1 ≠ gB; omega) _, by rw [List.length_set]; exact y2.far (by show w1.heap.size ≠ gB; omega) _, o1.setH (-1)⟩
        case measure => simp [intOf]; omega
    · have hk8 : 8 < (k : Int) + 1 := by omega
      have hk8' : k = 8 := by omega
      have HK := Lib.hid hk8'
      clear hk8'
      obtain ⟨k0, k1, e0, e1⟩ := y2.facts
      obtain ⟨j0, j1, f0, f1⟩ := y1.facts
      go_wp2_with fail
      refine bodyPost_ret (v := .agg #[.slice A1 v.length c1, .slice (some ⟨gB, 0, none⟩) u.length d1]) (by simp [results, Try.results56, go_sem, j0, j1]) rfl ?_
      have hu := HU.out
      rw [HK.out] at hu
      subst hu
      refine ⟨A1, _, c1, d1, rfl, ?_, ?_⟩
      · exact ((o1.far (by show w.heap.size + 1 < _; omega) _).far (by show w.heap.size + 1 < _; omega) _).lo (by omega)
      · exact (G.setCell (by show w.heap.size ≤ w.heap.size + 1; omega) _).setCell (by show w.heap.size ≤ w.heap.size + 1; omega) _



set_option maxRecDepth 100000 in
set_option maxHeartbeats 800000 in
theorem KeepCells_c (A B A9 : Option Addr) (c d c9 : Nat) (s : Pl.St) (l : List Int) (w : World) (hS : Sts w A B s) (hL : Ints w A9 l) (h1 : s.v.length ≤ 4194304) (h2 : s.h.length ≤ 4194304) (hl : l.length ≤ 4194304) :
    Calls Try.prog 24 #[sval A B c d s, .slice A9 l.length c9] w (RSt w (Pl.keepR s l)) := by
  obtain ⟨v, h⟩ := s
  have y0 := Box2.new w 30 (.slice A v.length c) (.slice B h.length d)
  have y1 := Box2.new (w.alloc (.cells #[.slice A v.length c, .slice B h.length d] 30)) 30 (.slice none 0 0) (.slice none 0 0)
  simp only [World.size_alloc] at y1
  go_enter Try.func24, Try.ntmps24
  go_wp2_with fail
  refine (chosenCells_c A B A9 c d c9 ⟨v, h⟩ l _ (hS.grow (by repeat (first | exact Grow.refl _ | assumption | refine Grow.alloc ?_ _ | refine Grow.drew ?_ | refine Grow.drewN ?_ _ | refine Grow.trans ?_ (by assumption) | refine Grow.below ?_ (by assumption) (by first | exact Nat.le_refl _ | omega)))) (hL.grow (by repeat (first | exact Grow.refl _ | assumption | refine Grow.alloc ?_ _ | refine Grow.drew ?_ | refine Grow.drewN ?_ _ | refine Grow.trans ?_ (by assumption) | refine Grow.below ?_ (by assumption) (by first | exact Nat.le_refl _ | omega)))) h1 h2 hl).mono ?_
  rintro e w1 ⟨hr, g1⟩
  replace y0 := y0.grow (show Grow _ w1 from (by repeat (first | exact Grow.refl _ | assumption | refine Grow.alloc ?_ _ | refine Grow.drew ?_ | refine Grow.drewN ?_ _ | refine Grow.trans ?_ (by assumption) | refine Grow.below ?_ (by assumption) (by first | exact Nat.le_refl _ | omega))))
  have G : Grow w w1 := (by repeat (first | exact Grow.refl _ | assumption | refine Grow.alloc ?_ _ | refine Grow.drew ?_ | refine Grow.drewN ?_ _ | refine Grow.trans ?_ (by assumption) | refine Grow.below ?_ (by assumption) (by first | exact Nat.le_refl _ | omega)))
  replace y1 := y1.grow g1
  clear g1
  obtain ⟨j0, j1, f0, f1⟩ := y1.facts
  cases hc : Pl.chosenP ⟨v, h⟩ l with
  | none =>
    rw [hc] at hr
    have HX := Lib.hid (Pl.keepR_none hc)
    obtain rfl := (show e = .returned (.tuple #[.int .u16 0, .bool false]) from hr)
    clear hr hc
    go_wp2_with fail
    refine bodyPost_ret (v := .tuple #[.agg #[.slice none 0 0, .slice none 0 0], .bool false]) (by simp [results, Try.results24, go_sem, j0, j1]) rfl (RSt.no HX.out rfl ?_)
    exact (G.setCell (by show w.heap.size ≤ w.heap.size + 1; omega) _).setCell (by show w.heap.size ≤ w.heap.size + 1; omega) _
  | some p =>
    rw [hc] at hr
    obtain ⟨m, rfl, ht⟩ : ∃ m : Nat, e = .returned (.tuple #[.int .u16 (m : Int), .bool true]) ∧ TI m p := hr
    have HX := Lib.hid (Pl.keepR_some hc)
    have HS := Lib.hid (show Pl.stv ⟨v, h⟩ = true by
      unfold Pl.chosenP at hc
      split at hc
      · assumption
      · cases hc)
    clear hc
    obtain ⟨k0, k1, _, _⟩ := y0.facts
    have hlw := y1.lt
    go_wp2_with fail
    refine (stateWith_c A B c d m ⟨v, h⟩ p _ (hS.grow G) HS.out ht.tb).mono ?_
    rintro e w2 ⟨A2, B2, c2, d2, rfl, o2, g2⟩
    have G2 := G.trans g2
    have hz1 := G.le
    replace y1 := y1.grow g2
    have hlt := y1.lt
    obtain ⟨j0, j1, f0, f1⟩ := y1.facts
    clear k0 k1
    go_wp2_with fail
    refine bodyPost_ret (v := .tuple #[.agg #[.slice A2 v.length c2, .slice B2 (Pl.onlyTo p 8 h).length d2], .bool true]) (by simp [results, Try.results24, go_sem, j0, j1]) rfl ?_
    rw [HX.out]
    exact ⟨A2, B2, c2, d2, rfl, ((o2.far (by show w.heap.size + 1 < _; omega) _).far (by show w.heap.size + 1 < _; omega) _).lo (by omega), (G2.setCell (by show w.heap.size ≤ w.heap.size + 1; omega) _).setCell (by show w.heap.size ≤ w.heap.size + 1; omega) _⟩

theorem xor16 (m : Nat) (hm : m < 65536) : bits BinOp.xor IntKind.u16 IntKind.u16.max (m : Int) = ((65535 ^^^ m : Nat) : Int) := by
  have hx : 65535 ^^^ m < 2 ^ 16 := Nat.xor_lt_two_pow (by omega) (by omega)
  have e : (BitVec.ofInt 16 (m : Int)).toNat = m := by
    rw [BitVec.ofInt_natCast, BitVec.toNat_ofNat]; exact Nat.mod_eq_of_lt (by omega)
  show IntKind.u16.wrap ((BitVec.ofInt 16 (65535 : Int) ^^^ BitVec.ofInt 16 (m : Int)).toNat : Int) = _
  rw [BitVec.toNat_xor, e, show (BitVec.ofInt 16 (65535 : Int)).toNat = 65535 from by decide]
  exact wraps_u16 _ (Int.natCast_nonneg _) (by exact_mod_cast hx)
theorem TB.neg {m : Nat} {p : Int → Bool} (h : TB m p) : TB (65535 ^^^ m) fun t => !p t := by
  refine ⟨Nat.xor_lt_two_pow (n := 16) (by omega) h.1, fun t ht => ?_⟩
  rw [Nat.testBit_xor, h.2 t ht, (show ∀ k : Fin 9, Nat.testBit 65535 k.val = true by decide) ⟨t, by omega⟩, Bool.true_xor]

set_option maxRecDepth 100000 in
set_option maxHeartbeats 800000 in
theorem DropCells_c (A B A9 : Option Addr) (c d c9 : Nat) (s : Pl.St) (l : List Int) (w : World) (hS : Sts w A B s) (hL : Ints w A9 l) (h1 : s.v.length ≤ 4194304) (h2 : s.h.length ≤ 4194304) (hl : l.length ≤ 4194304) :
    Calls Try.prog 27 #[sval A B c d s, .slice A9 l.length c9] w (RSt w (Pl.dropR s l)) := by
  obtain ⟨v, h⟩ := s
  have y0 := Box2.new w 30 (.slice A v.length c) (.slice B h.length d)
  have y1 := Box2.new (w.alloc (.cells #[.slice A v.length c, .slice B h.length d] 30)) 30 (.slice none 0 0) (.slice none 0 0)
  simp only [World.size_alloc] at y1
  go_enter Try.func27, Try.ntmps27
  go_wp2_with fail
  refine (chosenCells_c A B A9 c d c9 ⟨v, h⟩ l _ (hS.grow (by repeat (first | exact Grow.refl _ | assumption | refine Grow.alloc ?_ _ | refine Grow.drew ?_ | refine Grow.drewN ?_ _ | refine Grow.trans ?_ (by assumption) | refine Grow.below ?_ (by assumption) (by first | exact Nat.le_refl _ | omega)))) (hL.grow (by repeat (first | exact Grow.refl _ | assumption | refine Grow.alloc ?_ _ | refine Grow.drew ?_ | refine Grow.drewN ?_ _ | refine Grow.trans ?_ (by assumption) | refine Grow.below ?_ (by assumption) (by first | exact Nat.le_refl _ | omega)))) h1 h2 hl).mono ?_
  rintro e w1 ⟨hr, g1⟩
  replace y0 := y0.grow (show Grow _ w1 from (by repeat (first | exact Grow.refl _ | assumption | refine Grow.alloc ?_ _ | refine Grow.drew ?_ | refine Grow.drewN ?_ _ | refine Grow.trans ?_ (by assumption) | refine Grow.below ?_ (by assumption) (by first | exact Nat.le_refl _ | omega))))
  have G : Grow w w1 := (by repeat (first | exact Grow.refl _ | assumption | refine Grow.alloc ?_ _ | refine Grow.drew ?_ | refine Grow.drewN ?_ _ | refine Grow.trans ?_ (by assumption) | refine Grow.below ?_ (by assumption) (by first | exact Nat.le_refl _ | omega)))
  replace y1 := y1.grow g1
  clear g1
  obtain ⟨j0, j1, f0, f1⟩ := y1.facts
  cases hc : Pl.chosenP ⟨v, h⟩ l with
  | none =>
    rw [hc] at hr
    have HX := Lib.hid (Pl.dropR_none hc)
    obtain rfl := (show e = .returned (.tuple #[.int .u16 0, .bool false]) from hr)
    clear hr hc
    go_wp2_with fail
    refine bodyPost_ret (v := .tuple #[.agg #[.slice none 0 0, .slice none 0 0], .bool false]) (by simp [results, Try.results27, go_sem, j0, j1]) rfl (RSt.no HX.out rfl ?_)
    exact (G.setCell (by show w.heap.size ≤ w.heap.size + 1; omega) _).setCell (by show w.heap.size ≤ w.heap.size + 1; omega) _
  | some p =>
    rw [hc] at hr
    obtain ⟨m, rfl, ht⟩ : ∃ m : Nat, e = .returned (.tuple #[.int .u16 (m : Int), .bool true]) ∧ TI m p := hr
    have HX := Lib.hid (Pl.dropR_some hc)
    have HS := Lib.hid (show Pl.stv ⟨v, h⟩ = true by
      unfold Pl.chosenP at hc
      split at hc
      · assumption
      · cases hc)
    clear hc
    obtain ⟨k0, k1, _, _⟩ := y0.facts
    have hlw := y1.lt
    have hsg : IntKind.u16.signed = false := rfl
    go_wp2_with fail
    rw [xor16 m ht.tb.1]
    refine (stateWith_c A B c d (65535 ^^^ m) ⟨v, h⟩ (fun t => !p t) _ (hS.grow G) HS.out ht.tb.neg).mono ?_
    rintro e w2 ⟨A2, B2, c2, d2, rfl, o2, g2⟩
    have G2 := G.trans g2
    have hz1 := G.le
    replace y1 := y1.grow g2
    have hlt := y1.lt
    obtain ⟨j0, j1, f0, f1⟩ := y1.facts
    clear k0 k1
    go_wp2_with fail
    refine bodyPost_ret (v := .tuple #[.agg #[.slice A2 v.length c2, .slice B2 (Pl.onlyTo (fun t => !p t) 8 h).length d2], .bool true]) (by simp [results, Try.results27, go_sem, j0, j1]) rfl ?_
    rw [HX.out]
    exact ⟨A2, B2, c2, d2, rfl, ((o2.far (by show w.heap.size + 1 < _; omega) _).far (by show w.heap.size + 1 < _; omega) _).lo (by omega), (G2.setCell (by show w.heap.size ≤ w.heap.size + 1; omega) _).setCell (by show w.heap.size ≤ w.heap.size + 1; omega) _⟩

end Go.Proofs.Ytcipmmieiafpbaa
