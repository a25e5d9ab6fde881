/- Contracts of ways, in the program and in the reference. Conditions: the lengths are far from Go's bounds. -/
import Derived.Test.YtlcijjbeikoppaaSt8
namespace Go.Proofs.Ytlcijjbeikoppaa
open Go.RowKit
set_option linter.unusedVariables false

theorem way_done {h : List Int} {n : Nat} {x b : Int} (e : x = b) : Pl.way h n x b = some [] := by
  cases n <;> (unfold Pl.way; rw [if_pos e])
theorem way_stuck {h : List Int} {n : Nat} {x b : Int} (e : ¬ x = b) (ha : Pl.hasB h x = false) : Pl.way h n x b = none := by
  cases n <;> (unfold Pl.way; rw [if_neg e])
  rw [if_neg (by simp [ha])]
theorem way_full {h : List Int} {x b : Int} (e : ¬ x = b) : Pl.way h 0 x b = none := by unfold Pl.way; rw [if_neg e]
theorem way_on {h : List Int} {n : Nat} {x b : Int} (e : ¬ x = b) (ha : Pl.hasB h x = true) : Pl.way h (n + 1) x b = (Pl.way h n (Pl.cont h x) b).map (x :: ·) := by
  rw [show Pl.way h (n + 1) x b = (if x = b then some [] else if Pl.hasB h x then (Pl.way h n (Pl.cont h x) b).map (x :: ·) else none) from rfl, if_neg e, if_pos ha]
/-- What is known of a way behind the addresses l. -/
def OnWay (h : List Int) (a b : Int) (l : List Int) (x : Int) : Prop := l.length ≤ 8 ∧ Pl.way h 8 a b = (Pl.way h (8 - l.length) x b).map (l ++ ·)
theorem OnWay.start (h : List Int) (a b : Int) : OnWay h a b [] a := ⟨by simp, by simp⟩
theorem OnWay.step {h : List Int} {a b x : Int} {l : List Int} (k : OnWay h a b l x) (e : ¬ x = b) (ha : Pl.hasB h x = true) (hl : l.length < 8) : OnWay h a b (l ++ [x]) (Pl.cont h x) := by
  refine ⟨by simp; omega, ?_⟩
  rw [k.2, show 8 - l.length = (8 - (l ++ [x]).length) + 1 from by simp; omega, way_on e ha, Option.map_map]
  congr 1
  funext m
  simp
theorem OnWay.done {h : List Int} {a b x : Int} {l : List Int} (k : OnWay h a b l x) (e : x = b) : Pl.way h 8 a b = some l := by rw [k.2, way_done e]; simp
theorem OnWay.stuck {h : List Int} {a b x : Int} {l : List Int} (k : OnWay h a b l x) (e : ¬ x = b) (ha : Pl.hasB h x = false) : Pl.way h 8 a b = none := by rw [k.2, way_stuck e ha]; rfl
theorem OnWay.full {h : List Int} {a b x : Int} {l : List Int} (k : OnWay h a b l x) (e : ¬ x = b) (hl : l.length = 8) : Pl.way h 8 a b = none := by rw [k.2, hl, way_full e]; rfl
theorem walkC_some {s : Pl.St} {a b : Int} {l : List Int} (hs : Pl.stv s = true) (ha : Pl.vlB a = true) (hb : Pl.vlB b = true) (hw : Pl.way s.h 8 a b = some l) : Pl.walkC s a b = (l, true) := by unfold Pl.walkC; rw [hs, ha, hb, hw]; rfl
theorem walkC_none {s : Pl.St} {a b : Int} (hw : Pl.way s.h 8 a b = none) : Pl.walkC s a b = ([], false) := by unfold Pl.walkC; rw [hw]; simp
/-- The way alone, as the reference's own walk returns it. -/
def wayR (h : List Int) (a b : Int) : List Int × Bool := match Pl.way h 8 a b with | some l => (l, true) | none => ([], false)
theorem wayR_some {h : List Int} {a b : Int} {l : List Int} (k : Pl.way h 8 a b = some l) : wayR h a b = (l, true) := by unfold wayR; rw [k]
theorem wayR_none {h : List Int} {a b : Int} (k : Pl.way h 8 a b = none) : wayR h a b = ([], false) := by unfold wayR; rw [k]
theorem walkC_wayR {s : Pl.St} {a b : Int} (hs : Pl.stv s = true) (ha : Pl.vlB a = true) (hb : Pl.vlB b = true) : Pl.walkC s a b = wayR s.h a b := by unfold Pl.walkC wayR; rw [hs, ha, hb]; rfl
theorem walkC_bad {s : Pl.St} {a b : Int} (k : (Pl.stv s && Pl.vlB a && Pl.vlB b) = false) : Pl.walkC s a b = ([], false) := by unfold Pl.walkC; rw [k]; rfl

set_option maxRecDepth 100000 in
set_option maxHeartbeats 800000 in
theorem WalkCells_c (A B : Option Addr) (c d : Nat) (s : Pl.St) (a b : Int) (w : World) (hS : Sts w A B s) (h1 : s.v.length ≤ 4194304) (h2 : s.h.length ≤ 4194304) :
    Calls Try.prog 55 #[sval A B c d s, .int .i64 a, .int .i64 b] w (RWay w (Pl.walkC s a b)) := by
  obtain ⟨v, h⟩ := s
  obtain ⟨i0, hi, hz0, hz1, hz2⟩ := info_parts int_info
  have y1 := Box2.new w 43 (.slice A v.length c) (.slice B h.length d)
  cases hs : Pl.stv ⟨v, h⟩ with
  | false =>
    have HS := Lib.hid hs
    have HX := Lib.hid (walkC_bad (a := a) (b := b) (by rw [hs]; rfl))
    clear hs
    go_enter Try.func55, Try.ntmps55
    go_wp2_with fail
    refine (StateValid_c A B c d ⟨v, h⟩ _ (hS.grow (by repeat (first | exact Grow.refl _ | assumption | refine Grow.alloc ?_ _ | refine Grow.drew ?_ | refine Grow.drewN ?_ _ | refine Grow.trans ?_ (by assumption) | refine Grow.below ?_ (by assumption) (by first | exact Nat.le_refl _ | omega)))) h1 h2).mono ?_
    rintro e w1 ⟨rfl, g1⟩
    rw [HS.out]
    go_wp2_with fail
    go_ret2
    rw [HX.out]
    exact ⟨none, 0, rfl, oints_nil _ _, (by repeat (first | exact Grow.refl _ | assumption | refine Grow.alloc ?_ _ | refine Grow.drew ?_ | refine Grow.drewN ?_ _ | refine Grow.trans ?_ (by assumption) | refine Grow.below ?_ (by assumption) (by first | exact Nat.le_refl _ | omega)))⟩
  | true =>
    have HS := Lib.hid hs
    have hh8 := Lib.hid (show h.length = 8 from Pl.stv_h hs)
    have IB : Ints w B h := hS.h
    cases ha : Pl.vlB a with
    | false =>
      have HA := Lib.hid ha
      have HX := Lib.hid (walkC_bad (s := ⟨v, h⟩) (b := b) (by rw [ha]; simp))
      clear hs ha
      go_enter Try.func55, Try.ntmps55
      go_wp2_with fail
      refine (StateValid_c A B c d ⟨v, h⟩ _ (hS.grow (by repeat (first | exact Grow.refl _ | assumption | refine Grow.alloc ?_ _ | refine Grow.drew ?_ | refine Grow.drewN ?_ _ | refine Grow.trans ?_ (by assumption) | refine Grow.below ?_ (by assumption) (by first | exact Nat.le_refl _ | omega)))) h1 h2).mono ?_
      rintro e w1 ⟨rfl, g1⟩
      rw [HS.out]
      go_wp2_with fail
      refine (isValue_c a _).mono ?_
      rintro e w2 ⟨rfl, rfl⟩
      rw [HA.out]
      go_wp2_with fail
      go_ret2
      rw [HX.out]
      exact ⟨none, 0, rfl, oints_nil _ _, (by repeat (first | exact Grow.refl _ | assumption | refine Grow.alloc ?_ _ | refine Grow.drew ?_ | refine Grow.drewN ?_ _ | refine Grow.trans ?_ (by assumption) | refine Grow.below ?_ (by assumption) (by first | exact Nat.le_refl _ | omega)))⟩
    | true =>
      have HA := Lib.hid ha
      cases hb : Pl.vlB b with
      | false =>
        have HB := Lib.hid hb
        have HX := Lib.hid (walkC_bad (s := ⟨v, h⟩) (a := a) (by rw [hb]; simp))
        clear hs ha hb
        go_enter Try.func55, Try.ntmps55
        go_wp2_with fail
        refine (StateValid_c A B c d ⟨v, h⟩ _ (hS.grow (by repeat (first | exact Grow.refl _ | assumption | refine Grow.alloc ?_ _ | refine Grow.drew ?_ | refine Grow.drewN ?_ _ | refine Grow.trans ?_ (by assumption) | refine Grow.below ?_ (by assumption) (by first | exact Nat.le_refl _ | omega)))) h1 h2).mono ?_
        rintro e w1 ⟨rfl, g1⟩
        rw [HS.out]
        go_wp2_with fail
        refine (isValue_c a _).mono ?_
        rintro e w2 ⟨rfl, rfl⟩
        rw [HA.out]
        go_wp2_with fail
        refine (isValue_c b _).mono ?_
        rintro e w2 ⟨rfl, rfl⟩
        rw [HB.out]
        go_wp2_with fail
        go_ret2
        rw [HX.out]
        exact ⟨none, 0, rfl, oints_nil _ _, (by repeat (first | exact Grow.refl _ | assumption | refine Grow.alloc ?_ _ | refine Grow.drew ?_ | refine Grow.drewN ?_ _ | refine Grow.trans ?_ (by assumption) | refine Grow.below ?_ (by assumption) (by first | exact Nat.le_refl _ | omega)))⟩
      | true =>
        have HB := Lib.hid hb
        clear hs ha hb
        go_enter Try.func55, Try.ntmps55
        go_wp2_with fail
        refine (StateValid_c A B c d ⟨v, h⟩ _ (hS.grow (by repeat (first | exact Grow.refl _ | assumption | refine Grow.alloc ?_ _ | refine Grow.drew ?_ | refine Grow.drewN ?_ _ | refine Grow.trans ?_ (by assumption) | refine Grow.below ?_ (by assumption) (by first | exact Nat.le_refl _ | omega)))) h1 h2).mono ?_
        rintro e w1 ⟨rfl, g1⟩
        rw [HS.out]
        go_wp2_with fail
        refine (isValue_c a _).mono ?_
        rintro e w2 ⟨rfl, rfl⟩
        rw [HA.out]
        go_wp2_with fail
        refine (isValue_c b _).mono ?_
        rintro e w2 ⟨rfl, rfl⟩
        rw [HB.out]
        have y2 := y1.grow g1
        have G1 : Grow w w1 := (by repeat (first | exact Grow.refl _ | assumption | refine Grow.alloc ?_ _ | refine Grow.drew ?_ | refine Grow.drewN ?_ _ | refine Grow.trans ?_ (by assumption) | refine Grow.below ?_ (by assumption) (by first | exact Nat.le_refl _ | omega)))
        have hsz := y2.lt
        clear y1 g1 hS
        go_wp2_with fail
        go_loopw [8, 9] (fun u i wr => ∃ (l : List Int) (x : Int) (A : Option Addr) (c : Nat), OnWay h a b l x ∧ i = .int .i64 x ∧ Grow w1 wr ∧ u = .slice A l.length c ∧ OInts wr w1.heap.size (.slice A l.length c) l) (fun u _ _ => match u with | .slice _ n _ => 9 - n | _ => 0)
        case atStart => exact ⟨[], a, none, 0, OnWay.start _ _ _, rfl, Grow.refl _, rfl, oints_nil _ _⟩
        case round =>
          obtain ⟨l, x, A1, c1, how, rfl, hg, rfl, o1⟩ := hrel
          have HW := Lib.hid how
          have hl8 := how.1
          have hGr := G1.trans hg
          obtain ⟨k0, k1, _, _⟩ := (y2.grow hg).facts
          clear how
          by_cases hx : x = b
          · have HX := Lib.hid (walkC_some HS.out HA.out HB.out (HW.out.done hx))
            have hb0 : (x != b) = false := by simp [hx]
            clear hx
            go_wp2_with fail
            go_ret2
            rw [HX.out]
            exact ⟨A1, c1, rfl, own_lo o1 (by omega), hGr⟩
          · have HN := Lib.hid hx
            have hb0 : (x != b) = true := by simp [hx]
            clear hx
            cases hh : Pl.hasB h x with
            | false =>
              have HH := Lib.hid hh
              have HX := Lib.hid (walkC_none (s := ⟨v, h⟩) (HW.out.stuck HN.out hh))
              clear hh
              go_wp2_with fail
              refine (allocated_c A B v.length c d h x _ (IB.grow hGr) hh8.out).mono ?_
              rintro e w2 ⟨rfl, g2⟩
              rw [HH.out]
              go_wp2_with fail
              go_ret2
              rw [HX.out]
              exact ⟨none, 0, rfl, oints_nil _ _, hGr.trans g2⟩
            | true =>
              have HH := Lib.hid hh
              clear hh
              by_cases hl : l.length = 8
              · have HX := Lib.hid (walkC_none (s := ⟨v, h⟩) (HW.out.full HN.out hl))
                have hb1 : ((l.length : Int) == 8) = true := by simp; omega
                clear hl
                go_wp2_with fail
                refine (allocated_c A B v.length c d h x _ (IB.grow hGr) hh8.out).mono ?_
                rintro e w2 ⟨rfl, g2⟩
                rw [HH.out]
                go_wp2_with fail
                go_ret2
                rw [HX.out]
                exact ⟨none, 0, rfl, oints_nil _ _, hGr.trans g2⟩
              · have hb1 : ((l.length : Int) == 8) = false := by simp; omega
                have hl7 : l.length < 8 := by omega
                clear hl
                go_wp2_with fail
                refine (allocated_c A B v.length c d h x _ (IB.grow hGr) hh8.out).mono ?_
                rintro e w2 ⟨rfl, g2⟩
                rw [HH.out]
                have hs2 := (hg.trans g2).le
                have y3 := (y2.grow hg).grow g2
                have hgg := hg.trans g2
                have o2 := own_grow o1 g2
                clear hg g2 o1 k0 k1
                go_wp2_with ((at_builtin; go_must (refine wpList_append_src _ rfl _ _ 41 rfl w1.heap.size 3 i0 _ 1 8 Try.underlying41 hi hz0 hz1 hz2 rfl (by omega) _ l.length (l.map (Value.int .i64)) rfl (own_grow o2 (by repeat (first | exact Grow.refl _ | assumption | refine Grow.alloc ?_ _ | refine Grow.drew ?_ | refine Grow.drewN ?_ _ | refine Grow.trans ?_ (by assumption) | refine Grow.below ?_ (by assumption) (by first | exact Nat.le_refl _ | omega)))) _ 1 1 [.int .i64 x] rfl rfl (Cells.block (heap_alloc_new _ _)) (by intro u hu; rw [List.mem_singleton.1 hu]; rfl) (by unfold maxLen; omega) (by omega) (by simp; omega) (l.length + 1) rfl ((l ++ [x]).map (Value.int .i64)) (by simp) ?_; intro A3 c3 w3 ho3 _ _ hb3)); have y4 : Box2 w3 w.heap.size 43 (.slice A v.length c) (.slice B h.length d) := (hb3.block w.heap.size (by omega)).trans (y3.grow (show Grow _ (w2.alloc _) from Grow.alloc (Grow.refl _) _)); obtain ⟨k0, k1, _, _⟩ := y4.facts)
                have hg3 : Grow w1 w3 := (by repeat (first | exact Grow.refl _ | assumption | refine Grow.alloc ?_ _ | refine Grow.drew ?_ | refine Grow.drewN ?_ _ | refine Grow.trans ?_ (by assumption) | refine Grow.below ?_ (by assumption) (by first | exact Nat.le_refl _ | omega)))
                refine (content_c A B v.length c d h x _ (IB.grow (G1.trans hg3)) hh8.out).mono ?_
                rintro e w4 ⟨rfl, g4⟩
                go_wp2_with fail
                go_roundw
                case rel => exact ⟨l ++ [x], _, A3, c3, HW.out.step HN.out HH.out hl7, rfl, hg3.trans g4, by simp, own_grow (oints_snoc ho3) g4⟩
                case measure => simp; omega

set_option maxRecDepth 100000 in
set_option maxHeartbeats 800000 in
theorem l2Walk_c (A B : Option Addr) (c d : Nat) (v h : List Int) (a b : Int) (w : World) (hS : Sts w A B ⟨v, h⟩) (h8 : h.length = 8) :
    Calls Try.prog 86 #[.agg #[.slice A v.length c, .slice B h.length d], .int .i64 a, .int .i64 b] w (RWay w (wayR h a b)) := by
  obtain ⟨i0, hi, hz0, hz1, hz2⟩ := info_parts int_info
  have hh8 := Lib.hid h8
  have IB : Ints w B h := hS.h
  clear h8 hS
  go_enter Try.func86, Try.ntmps86
  go_wp2_with fail
  have o0 : OInts ((w.alloc (.cells #[.slice A v.length c, .slice B h.length d] 43)).alloc (.cells #[] 3)) (w.heap.size + 1) (.slice (some ⟨w.heap.size + 1, 0, none⟩) ([] : List Int).length 0) [] := own_empty (heap_snd _ _ _) (Nat.le_refl _)
  have y2 := (Box2.new w 43 (.slice A v.length c) (.slice B h.length d)).grow (show Grow _ ((w.alloc (.cells #[.slice A v.length c, .slice B h.length d] 43)).alloc (.cells #[] 3)) from Grow.alloc (Grow.refl _) _)
  have G1 : Grow w ((w.alloc (.cells #[.slice A v.length c, .slice B h.length d] 43)).alloc (.cells #[] 3)) := (by repeat (first | exact Grow.refl _ | assumption | refine Grow.alloc ?_ _ | refine Grow.drew ?_ | refine Grow.drewN ?_ _ | refine Grow.trans ?_ (by assumption) | refine Grow.below ?_ (by assumption) (by first | exact Nat.le_refl _ | omega)))
  have hsz : ((w.alloc (.cells #[.slice A v.length c, .slice B h.length d] 43)).alloc (.cells #[] 3)).heap.size = w.heap.size + 1 + 1 := by simp
  generalize (w.alloc (.cells #[.slice A v.length c, .slice B h.length d] 43)).alloc (.cells #[] 3) = w1 at *
  have HSZ := Lib.hid hsz
  have hsz2 : w.heap.size + 1 < w1.heap.size := by omega
  clear hsz
  go_loopw [8, 1] (fun u i wr => ∃ (l : List Int) (x : Int) (A : Option Addr) (c : Nat), OnWay h a b l x ∧ i = .int .i64 x ∧ Below (w.heap.size + 1) w1 wr ∧ u = .slice A l.length c ∧ OInts wr (w.heap.size + 1) (.slice A l.length c) l) (fun u _ _ => match u with | .slice _ n _ => 9 - n | _ => 0)
  case atStart => exact ⟨[], a, _, _, OnWay.start _ _ _, rfl, Below.refl _ _, rfl, o0⟩
  case round =>
    obtain ⟨l, x, A1, c1, how, rfl, hg, rfl, o1⟩ := hrel
    have HW := Lib.hid how
    have hl8 := how.1
    have hGr : Grow w wr := G1.below hg (by omega)
    have y3 : Box2 wr w.heap.size 43 (.slice A v.length c) (.slice B h.length d) := (hg.block w.heap.size (by omega)).trans y2
    have hszr : w.heap.size + 1 < wr.heap.size := by have := hg.size; omega
    obtain ⟨k0, k1, _, _⟩ := y3.facts
    clear how
    by_cases hx : x = b
    · have HX := Lib.hid (wayR_some (HW.out.done hx))
      have hb0 : (x != b) = false := by simp [hx]
      clear hx
      go_wp2_with fail
      go_ret2
      rw [HX.out]
      exact ⟨A1, c1, rfl, own_lo o1 (by omega), hGr⟩
    · have HN := Lib.hid hx
      have hb0 : (x != b) = true := by simp [hx]
      clear hx
      cases hh : Pl.hasB h x with
      | false =>
        have HH := Lib.hid hh
        have HX := Lib.hid (wayR_none (HW.out.stuck HN.out hh))
        clear hh
        go_wp2_with fail
        refine (l2Has_c A B v.length c d h x _ (IB.grow hGr) hh8.out).mono ?_
        rintro e w2 ⟨rfl, g2⟩
        rw [HH.out]
        go_wp2_with fail
        go_ret2
        rw [HX.out]
        exact ⟨some ⟨w2.heap.size, 0, none⟩, 0, rfl, own_lo (own_empty (heap_alloc_new w2 _) (Nat.le_refl _)) (by have := hGr.le; have := g2.le; omega), (hGr.trans g2).alloc _⟩
      | true =>
        have HH := Lib.hid hh
        have har := Pl.has_ad hh
        by_cases hl : l.length < 8
        · obtain ⟨k, rfl⟩ : ∃ k : Nat, x = (k : Int) + 1 := ⟨(x - 1).toNat, by omega⟩
          have hk : k < h.length := by have := hh8.out; omega
          have HC := Lib.hid (Pl.cont_in hk hh8.out)
          have hl7 : (l.length : Int) < 8 := by omega
          have hnx := Lib.hid (HW.out.step HN.out HH.out hl)
          clear hh hl
          go_wp2_with fail
          refine (l2Has_c A B v.length c d h _ _ (IB.grow hGr) hh8.out).mono ?_
          rintro e w2 ⟨rfl, g2⟩
          rw [HH.out]
          have b2 : Below (w.heap.size + 1) w1 w2 := hg.trans (g2.mono (by omega))
          have y4 := y3.grow g2
          have o2 := own_grow o1 g2
          have hs2 := b2.size
          clear hg g2 o1 k0 k1 y3
          obtain ⟨bb, off, hBB, _⟩ := IB.at_ hk
          subst hBB
          go_wp2_with ((at_builtin; go_must (refine wpList_append_src _ rfl _ _ 41 rfl (w.heap.size + 1) 3 i0 _ 1 8 Try.underlying41 hi hz0 hz1 hz2 rfl (by omega) _ l.length (l.map (Value.int .i64)) rfl (own_grow o2 (by repeat (first | exact Grow.refl _ | assumption | refine Grow.alloc ?_ _ | refine Grow.drew ?_ | refine Grow.drewN ?_ _ | refine Grow.trans ?_ (by assumption) | refine Grow.below ?_ (by assumption) (by first | exact Nat.le_refl _ | omega)))) _ 1 1 [.int .i64 ((k : Int) + 1)] rfl rfl (Cells.block (heap_alloc_new _ _)) (by intro u hu; rw [List.mem_singleton.1 hu]; rfl) (by unfold maxLen; omega) (by omega) (by simp; omega) (l.length + 1) rfl ((l ++ [((k : Int) + 1)]).map (Value.int .i64)) (by simp) ?_; intro A3 c3 w3 ho3 _ _ hb3)); have b3 := (b2.trans (Below.alloc (Below.refl _ _) (by omega) _)).trans hb3; have y5 : Box2 w3 w.heap.size 43 (.slice A v.length c) (.slice (some ⟨bb, off, none⟩) h.length d) := (b3.block w.heap.size (by omega)).trans y2; obtain ⟨k0, k1, _, _⟩ := y5.facts; obtain ⟨bb', off', hBB', q0⟩ := (IB.grow (G1.below b3 (by omega))).at_ hk; injection hBB' with hBB'; injection hBB' with hBB1 hBB2 _; subst hBB1 hBB2)
          go_roundw
          case rel => exact ⟨l ++ [(k : Int) + 1], _, A3, c3, by have := hnx.out; rw [HC.out] at this; exact this, rfl, b3, by simp, oints_snoc ho3⟩
          case measure => simp; omega
        · have HX := Lib.hid (wayR_none (HW.out.full HN.out (by omega)))
          have hl7 : 8 ≤ (l.length : Int) := by omega
          clear hh
          go_wp2_with fail
          refine (l2Has_c A B v.length c d h x _ (IB.grow hGr) hh8.out).mono ?_
          rintro e w2 ⟨rfl, g2⟩
          rw [HH.out]
          go_wp2_with fail
          go_ret2
          rw [HX.out]
          exact ⟨some ⟨w2.heap.size, 0, none⟩, 0, rfl, own_lo (own_empty (heap_alloc_new w2 _) (Nat.le_refl _)) (by have := hGr.le; have := g2.le; omega), (hGr.trans g2).alloc _⟩

end Go.Proofs.Ytlcijjbeikoppaa
