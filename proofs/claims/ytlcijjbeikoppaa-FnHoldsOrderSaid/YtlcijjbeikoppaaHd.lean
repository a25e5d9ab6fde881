/- The part of a state that an assertion describes, and whether it is the whole: contracts of the program. Conditions: the lengths are far from Go's bounds. -/
import Derived.Test.YtlcijjbeikoppaaJn0
namespace Go.Proofs.Ytlcijjbeikoppaa
open Go.RowKit
set_option linter.unusedVariables false

/-- What is left after a choice of cells. -/
def aftP (s : Pl.St) (xs : List Pl.Atm) : Option (Int → Bool) → Option (Int → Bool)
  | some q => Pl.cellsP s xs q
  | none => none
theorem cellsP_cons (s : Pl.St) (x : Pl.Atm) (xs : List Pl.Atm) (p : Int → Bool) : Pl.cellsP s (x :: xs) p = match Pl.l4R s x with
    | (l, true) => aftP s xs (Pl.addP l p)
    | (_, false) => none := by
  conv => lhs; unfold Pl.cellsP
  split <;> rename_i h <;> simp only [h]
  rename_i l
  cases Pl.addP l p <;> rfl
theorem cellsP_no {s : Pl.St} {x : Pl.Atm} {xs : List Pl.Atm} {l : List Int} {p : Int → Bool} (h : Pl.l4R s x = (l, false)) : Pl.cellsP s (x :: xs) p = none := by rw [cellsP_cons, h]
theorem cellsP_go {s : Pl.St} {x : Pl.Atm} {xs : List Pl.Atm} {l : List Int} {p : Int → Bool} (h : Pl.l4R s x = (l, true)) : Pl.cellsP s (x :: xs) p = aftP s xs (Pl.addP l p) := by rw [cellsP_cons, h]
theorem addP_no {n : Int} {l : List Int} {p : Int → Bool} (h : p n = true) : Pl.addP (n :: l) p = none := by unfold Pl.addP; rw [h]; rfl
theorem addP_on {n : Int} {l : List Int} {p : Int → Bool} (h : p n = false) : Pl.addP (n :: l) p = Pl.addP l fun t => p t || decide (t = n) := by
  conv => lhs; unfold Pl.addP
  rw [h]; rfl
theorem partP_no1 {s : Pl.St} {a : Pl.Asr} (h : Pl.stv s = false) : Pl.partP s a = none := by unfold Pl.partP; rw [h]; rfl
theorem partP_no2 {s : Pl.St} {a : Pl.Asr} (h : Pl.asv a = false) : Pl.partP s a = none := by unfold Pl.partP; rw [h]; simp
theorem partP_no3 {s : Pl.St} {a : Pl.Asr} (h : Pl.holdB a.f s.v = false) : Pl.partP s a = none := by unfold Pl.partP; rw [h]; simp
theorem partP_go {s : Pl.St} {a : Pl.Asr} (h1 : Pl.stv s = true) (h2 : Pl.asv a = true) (h3 : Pl.holdB a.f s.v = true) : Pl.partP s a = Pl.cellsP s a.a Pl.noP := by unfold Pl.partP; rw [h1, h2, h3]; rfl
theorem fhold_b {s : Pl.St} {a : Pl.Asr} (h1 : Pl.stv s = true) (h2 : Pl.asv a = true) : Pl.fhold a.f s.v = Pl.holdB a.f s.v := by
  unfold Pl.fhold; rw [((Pl.asv_iff a).1 h2).1, decide_eq_true (Pl.stv_v h1)]; rfl

set_option maxRecDepth 100000 in
set_option maxHeartbeats 3200000 in
theorem partOf_c (A B A9 B9 : Option Addr) (c d c9 d9 : Nat) (s : Pl.St) (a : Pl.Asr) (w : World) (hS : Sts w A B s) (hT : Asrs w A9 B9 a) (h1 : s.v.length ≤ 4194304) (h2 : s.h.length ≤ 4194304) (h3 : a.f.length ≤ 4194304) (h4 : a.a.length ≤ 4194304) :
    Calls Try.prog 64 #[sval A B c d s, asval A9 B9 c9 d9 a] w fun e w' => RSet (Pl.partP s a) e ∧ Grow w w' := by
  obtain ⟨v, h⟩ := s
  obtain ⟨fl, al⟩ := a
  replace h1 : v.length ≤ 4194304 := h1
  replace h2 : h.length ≤ 4194304 := h2
  replace h3 : fl.length ≤ 4194304 := h3
  replace h4 : al.length ≤ 4194304 := h4
  have y1 := (Box2.new w 43 (.slice A v.length c) (.slice B h.length d)).grow (show Grow _ ((w.alloc (.cells #[.slice A v.length c, .slice B h.length d] 43)).alloc (.cells #[.slice A9 fl.length c9, .slice B9 al.length d9] 30)) from Grow.alloc (Grow.refl _) _)
  have y2 := Box2.new (w.alloc (.cells #[.slice A v.length c, .slice B h.length d] 43)) 30 (.slice A9 fl.length c9) (.slice B9 al.length d9)
  have G : Grow w ((w.alloc (.cells #[.slice A v.length c, .slice B h.length d] 43)).alloc (.cells #[.slice A9 fl.length c9, .slice B9 al.length d9] 30)) := (by repeat (first | exact Grow.refl _ | assumption | refine Grow.alloc ?_ _ | refine Grow.drew ?_ | refine Grow.drewN ?_ _ | refine Grow.trans ?_ (by assumption) | refine Grow.below ?_ (by assumption) (by first | exact Nat.le_refl _ | omega)))
  simp only [World.size_alloc] at y2
  obtain ⟨R, hR⟩ : ∃ R, R = Pl.partP ⟨v, h⟩ ⟨fl, al⟩ := ⟨_, rfl⟩
  rw [← hR]
  have HR := Lib.hid hR
  clear hR
  go_enter Try.func64, Try.ntmps64
  obtain ⟨k0, k1, _, _⟩ := y1.facts
  go_wp2_with fail
  generalize (w.alloc (.cells #[.slice A v.length c, .slice B h.length d] 43)).alloc (.cells #[.slice A9 fl.length c9, .slice B9 al.length d9] 30) = w0 at *
  have hS0 : Sts w0 A B ⟨v, h⟩ := hS.grow G
  have hT0 : Asrs w0 A9 B9 ⟨fl, al⟩ := hT.grow G
  refine (StateValid_c A B c d ⟨v, h⟩ _ hS0 h1 h2).mono ?_
  rintro e w1 ⟨rfl, g1⟩
  clear k0 k1
  replace y1 := y1.grow g1
  replace y2 := y2.grow g1
  replace hS0 := hS0.grow g1
  replace hT0 := hT0.grow g1
  replace G := G.trans g1
  clear g1
  cases ha : Pl.stv ⟨v, h⟩ with
  | false =>
    have HX := Lib.hid (HR.out.trans (partP_no1 ha))
    clear ha
    go_wp2_with fail
    go_ret2
    exact ⟨RSet.no HX.out rfl, G⟩
  | true =>
    have HA := Lib.hid ha
    clear ha
    obtain ⟨q0, q1, _, _⟩ := y2.facts
    go_wp2_with fail
    refine (AssertionValid_c A9 B9 c9 d9 ⟨fl, al⟩ _ hT0 h3 h4).mono ?_
    rintro e w2 ⟨rfl, g2⟩
    clear q0 q1
    replace y1 := y1.grow g2
    replace y2 := y2.grow g2
    replace hS0 := hS0.grow g2
    replace hT0 := hT0.grow g2
    replace G := G.trans g2
    clear g2
    cases ha : Pl.asv ⟨fl, al⟩ with
    | false =>
      have HX := Lib.hid (HR.out.trans (partP_no2 ha))
      clear ha
      go_wp2_with fail
      go_ret2
      exact ⟨RSet.no HX.out rfl, G⟩
    | true =>
      have HB := Lib.hid ha
      clear ha
      obtain ⟨k0, k1, _, _⟩ := y1.facts
      obtain ⟨q0, q1, _, _⟩ := y2.facts
      go_wp2_with fail
      refine (FactsHold_c A9 A c9 c fl v _ hT0.v hS0.v (by omega) (by omega)).mono ?_
      rintro e w3 ⟨rfl, g3⟩
      rw [show Pl.fhold fl v = Pl.holdB fl v from fhold_b HA.out HB.out]
      clear k0 k1 q0 q1
      replace y1 := y1.grow g3
      replace y2 := y2.grow g3
      replace hS0 := hS0.grow g3
      replace hT0 := hT0.grow g3
      replace G := G.trans g3
      clear g3
      cases ha : Pl.holdB fl v with
      | false =>
        have HX := Lib.hid (HR.out.trans (partP_no3 ha))
        clear ha
        go_wp2_with fail
        go_ret2
        exact ⟨RSet.no HX.out rfl, G⟩
      | true =>
        have HX := Lib.hid (show Pl.cellsP ⟨v, h⟩ al Pl.noP = R from (HR.out.trans (partP_go HA.out HB.out ha)).symm)
        clear ha
        have HAV := Lib.hid (((Pl.asv_iff _).1 HB.out).2.2)
        have JB : Atoms w3 B9 al := hT0.h
        obtain ⟨q0, q1, _, _⟩ := y2.facts
        have Gc : Grow w3 w3 := Grow.refl _
        go_wp2_with fail
        go_loopw [6, 32] (fun q i wr => ∃ (k m : Nat) (p : Int → Bool), k ≤ al.length ∧ i = .int .i64 k ∧ q = .int .u16 (m : Int) ∧ TI m p ∧ Hid (Pl.cellsP ⟨v, h⟩ (al.drop k) p = R) ∧ Grow w3 wr ∧ Box2 wr w.heap.size 43 (.slice A v.length c) (.slice B h.length d)) (fun _ i _ => al.length - (intOf i).toNat)
        case atStart => exact ⟨0, 0, Pl.noP, Nat.zero_le _, rfl, rfl, TI.zero, HX, Gc, y1⟩
        case round =>
          clear Gc y1 y2 q0 q1 HX
          obtain ⟨k, m, p, hk, rfl, rfl, ht, HP, Gc, y1⟩ := hrel
          by_cases hlt : k < al.length
          · obtain ⟨b, off, rfl, c0, c1, c2⟩ := (JB.grow Gc).at_ hlt
            have HD := Lib.hid (show Pl.cellsP ⟨v, h⟩ (al[k] :: al.drop (k + 1)) p = R by rw [← drop_at hlt]; exact HP.out)
            have HV := Lib.hid (HAV.out al[k] (List.getElem_mem hlt))
            obtain ⟨l, bb, hW⟩ : ∃ l b, Pl.atomR ⟨v, h⟩ al[k] = (l, b) := ⟨_, _, rfl⟩
            have HL := Lib.hid ((Pl.atomR_ok HA.out HV.out).symm.trans hW)
            have hll : l.length ≤ 8 := by have := Pl.atomR_len ⟨v, h⟩ al[k]; rw [hW] at this; exact this
            have CA : ∀ W, Grow w3 W → Calls Try.prog 17 #[sval A B c d ⟨v, h⟩, .agg #[.int .i64 al[k].k, .int .i64 al[k].a, .int .i64 al[k].b]] W (RWay W (l, bb)) := fun W hg => by
              rw [← hW]; exact AtomCells_c A B c d ⟨v, h⟩ al[k] W (hS0.grow hg) h1 h2
            clear hW
            obtain ⟨k0, k1, _, _⟩ := y1.facts
            have hk2 : (k : Int) < (al.length : Int) := by omega
            have hk3 : (0 : Int) ≤ (k : Int) := by omega
            have y3 := Box3.new wr 45 (.int .i64 al[k].k) (.int .i64 al[k].a) (.int .i64 al[k].b)
            have hlw := y1.lt
            go_wp2_with fail
            refine (CA _ (Gc.trans (by repeat (first | exact Grow.refl _ | assumption | refine Grow.alloc ?_ _ | refine Grow.drew ?_ | refine Grow.drewN ?_ _ | refine Grow.trans ?_ (by assumption) | refine Grow.below ?_ (by assumption) (by first | exact Nat.le_refl _ | omega))))).mono ?_
            rintro e w4 ⟨A4, c4, rfl, o4, g4⟩
            have IL : Ints w4 A4 l := OInts.ints rfl o4
            replace y1 := y1.grow (show Grow wr w4 from (by repeat (first | exact Grow.refl _ | assumption | refine Grow.alloc ?_ _ | refine Grow.drew ?_ | refine Grow.drewN ?_ _ | refine Grow.trans ?_ (by assumption) | refine Grow.below ?_ (by assumption) (by first | exact Nat.le_refl _ | omega))))
            replace Gc := Gc.trans (show Grow wr w4 from (by repeat (first | exact Grow.refl _ | assumption | refine Grow.alloc ?_ _ | refine Grow.drew ?_ | refine Grow.drewN ?_ _ | refine Grow.trans ?_ (by assumption) | refine Grow.below ?_ (by assumption) (by first | exact Nat.le_refl _ | omega))))
            clear k0 k1 c0 c1 c2 y3 g4 o4
            cases bb with
            | false =>
              have HN := Lib.hid (show R = none from HD.out.symm.trans (cellsP_no HL.out))
              go_wp2_with fail
              go_ret2
              exact ⟨RSet.no HN.out rfl, G.trans Gc⟩
            | true =>
              have HQ := Lib.hid (show aftP ⟨v, h⟩ (al.drop (k + 1)) (Pl.addP l p) = R from (cellsP_go HL.out).symm.trans HD.out)
              have HH := Lib.hid (Pl.l4R_has HL.out)
              go_wp2_with fail
              go_loopw [6, 46] (fun q i wr => ∃ (j m : Nat) (p : Int → Bool), j ≤ l.length ∧ i = .int .i64 j ∧ q = .int .u16 (m : Int) ∧ TI m p ∧ Hid (aftP ⟨v, h⟩ (al.drop (k + 1)) (Pl.addP (l.drop j) p) = R) ∧ wr = w4) (fun _ i _ => l.length - (intOf i).toNat)
              case atStart => exact ⟨0, m, p, Nat.zero_le _, rfl, rfl, ht, HQ, rfl⟩
              case round =>
                clear ht HP HD HQ
                obtain ⟨j, m, p, hj, rfl, rfl, ht, HP, rfl⟩ := hrel
                by_cases hjt : j < l.length
                · obtain ⟨b2, off2, rfl, c0⟩ := IL.at_ hjt
                  have har := Pl.has_ad (HH.out l[j] (List.getElem_mem hjt))
                  obtain ⟨t, hte⟩ : ∃ t : Nat, l[j] = (t : Int) := ⟨l[j].toNat, by omega⟩
                  have ht8 : t ≤ 8 := by omega
                  have ht1 : 1 ≤ t := by omega
                  have HD := Lib.hid (show aftP ⟨v, h⟩ (al.drop (k + 1)) (Pl.addP ((t : Int) :: l.drop (j + 1)) p) = R by rw [← hte, ← drop_at hjt]; exact HP.out)
                  rw [hte] at c0
                  have hjt2 : (j : Int) < (l.length : Int) := by omega
                  have hj3 : (0 : Int) ≤ (j : Int) := by omega
                  clear har hte
                  cases hp : p (t : Int) with
                  | true =>
                    have HN := Lib.hid (show R = none from HD.out.symm.trans (by rw [addP_no hp]; rfl))
                    have HPP := Lib.hid (show (Pl.adB (t : Int) && p (t : Int)) = true by rw [hp, (Pl.adB_iff _).2 (by omega)]; rfl)
                    clear hp
                    go_wp2_with fail
                    refine (chas_c m p (t : Int) _ ht.tb).mono ?_
                    rintro e w5 ⟨rfl, rfl⟩
                    rw [HPP.out]
                    go_wp2_with fail
                    go_ret2
                    exact ⟨RSet.no HN.out rfl, G.trans Gc⟩
                  | false =>
                    have HPP := Lib.hid (show (Pl.adB (t : Int) && p (t : Int)) = false by rw [hp, Bool.and_false])
                    have HN := Lib.hid (show aftP ⟨v, h⟩ (al.drop (k + 1)) (Pl.addP (l.drop (j + 1)) fun x => p x || decide (x = (t : Int))) = R by rw [← addP_on hp]; exact HD.out)
                    have HT := Lib.hid (ht.add ht8)
                    have E := Lib.hid (or_bit ht ht8)
                    clear hp
                    go_wp2_with fail
                    refine (chas_c m p (t : Int) _ ht.tb).mono ?_
                    rintro e w5 ⟨rfl, rfl⟩
                    rw [HPP.out]
                    clear ht
                    go_wp2_with fail
                    go_roundw
                    case rel => exact ⟨j + 1, _, _, by omega, by go_num, by rw [← E.out], HT.out, HN, trivial⟩
                    case measure => simp [intOf]; omega
                · have HN := Lib.hid (show Pl.cellsP ⟨v, h⟩ (al.drop (k + 1)) p = R by rw [← HP.out, List.drop_of_length_le (show l.length ≤ j by omega)]; rfl)
                  go_wp2_with fail
                  go_roundw
                  case rel => exact ⟨k + 1, m, p, by omega, by go_num, rfl, ht, HN, Gc, y1⟩
                  case measure => simp [intOf]; omega
          · have HN := Lib.hid (show R = some p by rw [← HP.out, List.drop_of_length_le (by omega)]; rfl)
            have HT := Lib.hid ht
            clear ht
            go_wp2_with fail
            go_ret2
            exact ⟨RSet.yes HN.out rfl HT.out, G.trans Gc⟩

theorem ti_holds {s : Pl.St} {a : Pl.Asr} {p : Int → Bool} {m n : Nat} (hp : Pl.partP s a = some p) (hm : TI m p) (hn : TI n (Pl.hasB s.h)) : ((m : Int) == (n : Int)) = Pl.holdsB s a := by
  rw [Pl.holdsB_some hp, Bool.eq_iff_iff, decide_eq_true_iff, beq_iff_eq]
  have e : ((m : Int) = (n : Int)) ↔ m = n := by omega
  rw [e, hm.eq_iff hn]
  have hz : Pl.hasB s.h ((0 : Nat) : Int) = false := by rw [Pl.hasB_false, Pl.cont_out (by decide)]; omega
  constructor
  · exact fun h i h9 _ => h i (by omega)
  · intro h t h8
    cases t with
    | zero =>
      rw [hz]
      cases hq : p ((0 : Nat) : Int) with
      | false => rfl
      | true => have := Pl.partP_sub hp _ hq; rw [hz] at this; cases this
    | succ t => exact h (t + 1) (by omega) (by omega)

set_option maxRecDepth 100000 in
set_option maxHeartbeats 1600000 in
theorem Holds_c (A B A9 B9 : Option Addr) (c d c9 d9 : Nat) (s : Pl.St) (a : Pl.Asr) (w : World) (hS : Sts w A B s) (hT : Asrs w A9 B9 a) (h1 : s.v.length ≤ 4194304) (h2 : s.h.length ≤ 4194304) (h3 : a.f.length ≤ 4194304) (h4 : a.a.length ≤ 4194304) :
    Calls Try.prog 24 #[sval A B c d s, asval A9 B9 c9 d9 a] w fun e w' => e = .returned (.bool (Pl.holdsB s a)) ∧ Grow w w' := by
  obtain ⟨v, h⟩ := s
  obtain ⟨fl, al⟩ := a
  have y1 := (Box2.new w 43 (.slice A v.length c) (.slice B h.length d)).grow (show Grow _ ((w.alloc (.cells #[.slice A v.length c, .slice B h.length d] 43)).alloc (.cells #[.slice A9 fl.length c9, .slice B9 al.length d9] 30)) from Grow.alloc (Grow.refl _) _)
  have y2 := Box2.new (w.alloc (.cells #[.slice A v.length c, .slice B h.length d] 43)) 30 (.slice A9 fl.length c9) (.slice B9 al.length d9)
  have G : Grow w ((w.alloc (.cells #[.slice A v.length c, .slice B h.length d] 43)).alloc (.cells #[.slice A9 fl.length c9, .slice B9 al.length d9] 30)) := (by repeat (first | exact Grow.refl _ | assumption | refine Grow.alloc ?_ _ | refine Grow.drew ?_ | refine Grow.drewN ?_ _ | refine Grow.trans ?_ (by assumption) | refine Grow.below ?_ (by assumption) (by first | exact Nat.le_refl _ | omega)))
  simp only [World.size_alloc] at y2
  go_enter Try.func24, Try.ntmps24
  obtain ⟨k0, k1, _, _⟩ := y1.facts
  obtain ⟨q0, q1, _, _⟩ := y2.facts
  go_wp2_with fail
  generalize (w.alloc (.cells #[.slice A v.length c, .slice B h.length d] 43)).alloc (.cells #[.slice A9 fl.length c9, .slice B9 al.length d9] 30) = w0 at *
  refine (partOf_c A B A9 B9 c d c9 d9 ⟨v, h⟩ ⟨fl, al⟩ _ (hS.grow G) (hT.grow G) h1 h2 h3 h4).mono ?_
  rintro e w1 ⟨hr, g1⟩
  clear k0 k1 q0 q1
  replace y1 := y1.grow g1
  replace G := G.trans g1
  clear g1
  cases hp : Pl.partP ⟨v, h⟩ ⟨fl, al⟩ with
  | none =>
    rw [hp] at hr
    obtain rfl := (show e = .returned (.tuple #[.int .u16 0, .bool false]) from hr)
    have HX := Lib.hid (Pl.holdsB_none hp)
    clear hp hr
    go_wp2_with fail
    go_ret
    exact ⟨by rw [HX.out]; rfl, G⟩
  | some p =>
    rw [hp] at hr
    obtain ⟨m, rfl, ht⟩ : ∃ m : Nat, e = .returned (.tuple #[.int .u16 (m : Int), .bool true]) ∧ TI m p := hr
    have HH := Lib.hid (show h.length = 8 from by
      have : Pl.stv ⟨v, h⟩ = true := by
        cases hs : Pl.stv ⟨v, h⟩ with
        | true => rfl
        | false => rw [partP_no1 hs] at hp; cases hp
      exact Pl.stv_h this)
    have HX := Lib.hid (fun n hn => ti_holds (n := n) hp ht hn)
    clear hp
    obtain ⟨k0, k1, _, _⟩ := y1.facts
    go_wp2_with fail
    refine (usedIn_c A B v.length c d h _ ((show Ints w B h from hS.h).grow G) HH.out).mono ?_
    rintro e w2 ⟨n, rfl, hn, g2⟩
    have E := HX.out n hn
    go_wp2_with fail
    go_ret
    exact ⟨by rw [← E]; rfl, G.trans g2⟩

end Go.Proofs.Ytlcijjbeikoppaa
