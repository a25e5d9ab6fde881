/- FnExactAtomCells: for every state and atom the program's AtomCells answers as the reference does and leaves its arguments alone. No conditions. -/
import Derived.Test.YtcipmmieiafpbaaStM
import Derived.Test.YtcipmmieiafpbaaCel
import Derived.Test.YtcipmmieiafpbaaRowAs
import Derived.Deep.DeepCutAuto
namespace Go.Proofs.Ytcipmmieiafpbaa.lawFnExactAtomCells
open Go.ChangeShapes Go.WideShapes Go.ChangeAt Go.RowKit Go.Joins Go.Deep
open Go.ChangeMaps (open_string shut_string)
set_option linter.unusedVariables false
set_option linter.unusedSimpArgs false

set_option maxRecDepth 100000 in
set_option maxHeartbeats 6400000 in
theorem walk (A : Option Addr) (c : Nat) (v : List Int) (B : Option Addr) (d : Nat) (h : List Int) (x : Pl.Atm) (w : World) (hA : Ints w A v) (hB : Ints w B h) (hn : v.length ≤ 9223372036854775807) (hm : h.length ≤ 9223372036854775807) (hx : True) :
    Calls Try.prog 3 #[.agg #[.slice A v.length c, .slice B h.length d], .agg #[.int .i64 x.k, .int .i64 x.a, .int .i64 x.b]] w fun e w' => e = .returned (.bool true) ∧ Grow w w' := by
  have hS : Sts w A B ⟨v, h⟩ := ⟨hA, hB⟩
  obtain ⟨kk, aa, bb⟩ := x
  show Calls Try.prog 3 #[.agg #[.slice A v.length c, .slice B h.length d], .agg #[.int .i64 kk, .int .i64 aa, .int .i64 bb]] w _
  have yp0 := (Box2.new w 24 (.slice A v.length c) (.slice B h.length d)).grow (show Grow _ ((w.alloc (.cells #[.slice A v.length c, .slice B h.length d] 24)).alloc (.cells #[.int .i64 kk, .int .i64 aa, .int .i64 bb] 26)) from Grow.alloc (Grow.refl _) _)
  have ya0 := Box3.new (w.alloc (.cells #[.slice A v.length c, .slice B h.length d] 24)) 26 (.int .i64 kk) (.int .i64 aa) (.int .i64 bb)
  simp only [World.size_alloc] at ya0
  have G0 : Grow w ((w.alloc (.cells #[.slice A v.length c, .slice B h.length d] 24)).alloc (.cells #[.int .i64 kk, .int .i64 aa, .int .i64 bb] 26)) := (by repeat (first | exact Grow.refl _ | assumption | refine Grow.alloc ?_ _ | refine Grow.drew ?_ | refine Grow.drewN ?_ _ | refine Grow.trans ?_ (by assumption) | refine Grow.below ?_ (by assumption) (by first | exact Nat.le_refl _ | omega)))
  have hwz : w.heap.size + 2 ≤ ((w.alloc (.cells #[.slice A v.length c, .slice B h.length d] 24)).alloc (.cells #[.int .i64 kk, .int .i64 aa, .int .i64 bb] 26)).heap.size := by simp
  by_cases h20 : v.length + h.length ≤ 1048576
  · have hs := Lib.hid (show szv2 v.length h.length 1048576 = 1048576 - v.length - h.length by unfold szv2; rw [if_neg (by omega)])
    have h1 : v.length ≤ 1048576 := by omega
    have h2 : h.length ≤ 1048576 := by omega
    obtain ⟨r, hr⟩ : ∃ r, r = Pl.atomR ⟨v, h⟩ ⟨kk, aa, bb⟩ := ⟨_, rfl⟩
    have hl : r.1.length ≤ 1048576 := by rw [hr]; exact Nat.le_trans (Pl.atomR_len _ _) (by omega)
    have CS := Lib.hid (show ∀ A B c d W, Sts W A B ⟨v, h⟩ → Calls Try.prog 13 #[sval A B c d ⟨v, h⟩, .agg #[.int .i64 kk, .int .i64 aa, .int .i64 bb]] W (RWay W r) from fun A B c d W k => by rw [hr]; exact sAtomCells_c A B c d ⟨v, h⟩ ⟨kk, aa, bb⟩ W k (by show v.length ≤ _; omega) (by show h.length ≤ _; omega))
    have CI := Lib.hid (show ∀ A B c d W, Sts W A B ⟨v, h⟩ → Calls Try.prog 16 #[sval A B c d ⟨v, h⟩, .agg #[.int .i64 kk, .int .i64 aa, .int .i64 bb]] W (RWay W r) from fun A B c d W k => by rw [hr]; exact AtomCells_c A B c d ⟨v, h⟩ ⟨kk, aa, bb⟩ W k (by show v.length ≤ _; omega) (by show h.length ≤ _; omega))
    obtain ⟨rl, rb⟩ := r
    have hl1 : rl.length ≤ 1048576 := hl
    clear hr hl
    have hS0 := hS
    clear hA hB
    go_enter Try.func3, Try.ntmps3
    go_wp2_with fail
    generalize (w.alloc (.cells #[.slice A v.length c, .slice B h.length d] 24)).alloc (.cells #[.int .i64 kk, .int .i64 aa, .int .i64 bb] 26) = wz at *
    replace hS := hS.grow G0
    have G := G0
    have yp := yp0
    have ya := ya0
    clear yp0 ya0
    refine (szState_c A B v.length h.length c d 1048576 _ hn hm (by omega) (by omega)).mono ?_
    rintro e w0 ⟨rfl, g0⟩
    have q : Grow wz w0 := (by repeat (first | exact Grow.refl _ | assumption | refine Grow.alloc ?_ _ | refine Grow.drew ?_ | refine Grow.drewN ?_ _ | refine Grow.trans ?_ (by assumption) | refine Grow.below ?_ (by assumption) (by first | exact Nat.le_refl _ | omega)))
    have zw0 := q.le
    replace yp := yp.grow q
    replace ya := ya.grow q
    replace hS := hS.grow q
    replace G := G.trans q
    clear q g0
    rw [hs.out]
    clear hs
    obtain ⟨yp0, yp1, _, _⟩ := yp.facts
    have yp2 := yp.lt
    obtain ⟨ya0, ya1, ya3⟩ := ya.facts
    have ya2 := ya.lt
    go_wp2_with fail
    go_region_held3 (fun W => W.cell? ⟨w.heap.size, 0, none⟩ = some (.slice A v.length c) ∧ W.cell? ⟨w.heap.size, 1, none⟩ = some (.slice B h.length d) ∧ W.cell? ⟨w.heap.size + 1, 0, none⟩ = some (.int .i64 kk) ∧ W.cell? ⟨w.heap.size + 1, 1, none⟩ = some (.int .i64 aa) ∧ W.cell? ⟨w.heap.size + 1, 2, none⟩ = some (.int .i64 bb))
      (first | go_keep | (go_split_ands; exact ⟨g2.cell (by assumption), g2.cell (by assumption), g2.cell (by assumption), g2.cell (by assumption), g2.cell (by assumption)⟩) | (go_split_ands; exact ⟨g22.cell (by assumption), g22.cell (by assumption), g22.cell (by assumption), g22.cell (by assumption), g22.cell (by assumption)⟩) | (go_split_ands; exact ⟨g21.cell (by assumption), g21.cell (by assumption), g21.cell (by assumption), g21.cell (by assumption), g21.cell (by assumption)⟩))
      (first
        | (go_at_call 14; (with_reducible refine (toState_c A B c d ⟨v, h⟩ _ (hS.grow (by repeat (first | exact Grow.refl _ | assumption | refine Grow.alloc ?_ _ | refine Grow.drew ?_ | refine Grow.drewN ?_ _ | refine Grow.trans ?_ (by assumption) | refine Grow.below ?_ (by assumption) (by first | exact Nat.le_refl _ | omega)))) h1 h2).mono ?_); rintro e w21 ⟨A21, B21, c21, d21, rfl, o21, g21⟩)
        | (go_at_call 15; (with_reducible refine (toAtom_c ⟨kk, aa, bb⟩ _).mono ?_); rintro e w22 ⟨rfl, g22⟩)
        | (go_at_call 13; (refine (CS.out A21 B21 c21 d21 _ (o21.st.grow (by repeat (first | exact Grow.refl _ | assumption | refine Grow.alloc ?_ _ | refine Grow.drew ?_ | refine Grow.drewN ?_ _ | refine Grow.trans ?_ (by assumption) | refine Grow.below ?_ (by assumption) (by first | exact Nat.le_refl _ | omega))))).mono ?_); rintro e w2 ⟨A2, c2, rfl, o2, g2⟩))
    clear yp0 yp1 yp2 ya0 ya1 ya2 ya3
    have q : Grow w0 w2 := (by repeat (first | exact Grow.refl _ | assumption | refine Grow.alloc ?_ _ | refine Grow.drew ?_ | refine Grow.drewN ?_ _ | refine Grow.trans ?_ (by assumption) | refine Grow.below ?_ (by assumption) (by first | exact Nat.le_refl _ | omega)))
    have zw2 := q.le
    have lg21 := g21.le
    have lg22 := g22.le
    have lg2 := g2.le
    (try simp only [World.size_alloc, World.size_drew] at lg21 lg22 lg2)
    replace o2 : OIn w2 w0.heap.size A2 c2 rl := ⟨own_lo o2 (by (try simp only [World.size_alloc, World.size_drew]); omega)⟩
    clear lg21 lg22 lg2
    replace yp := yp.grow q
    replace ya := ya.grow q
    replace hS := hS.grow q
    replace G := G.trans q
    clear q g21 g22 g2 o21
    clear CS
    have b2 := o2.bd
    (try simp only [World.size_alloc, World.size_drew] at b2)
    obtain ⟨yp0, yp1, _, _⟩ := yp.facts
    have yp2 := yp.lt
    go_wp2_with fail
    refine (toState_c A B c d ⟨v, h⟩ _ (hS.grow (by repeat (first | exact Grow.refl _ | assumption | refine Grow.alloc ?_ _ | refine Grow.drew ?_ | refine Grow.drewN ?_ _ | refine Grow.trans ?_ (by assumption) | refine Grow.below ?_ (by assumption) (by first | exact Nat.le_refl _ | omega)))) h1 h2).mono ?_
    rintro e w3 ⟨A3, B3, c3, d3, rfl, o3, g3⟩
    clear yp0 yp1 yp2
    have q : Grow w2 w3 := (by repeat (first | exact Grow.refl _ | assumption | refine Grow.alloc ?_ _ | refine Grow.drew ?_ | refine Grow.drewN ?_ _ | refine Grow.trans ?_ (by assumption) | refine Grow.below ?_ (by assumption) (by first | exact Nat.le_refl _ | omega)))
    have zw3 := q.le
    replace yp := yp.grow q
    replace ya := ya.grow q
    replace hS := hS.grow q
    replace o2 := o2.grow q
    replace G := G.trans q
    clear q g3
    have b3 := o3.bdv
    have b3h := o3.bdh
    have yx := Box2.new w3 30 (.slice A3 v.length c3) (.slice B3 h.length d3)
    have q : Grow w3 (w3.alloc (.cells #[.slice A3 v.length c3, .slice B3 h.length d3] 30)) := (by repeat (first | exact Grow.refl _ | assumption | refine Grow.alloc ?_ _ | refine Grow.drew ?_ | refine Grow.drewN ?_ _ | refine Grow.trans ?_ (by assumption) | refine Grow.below ?_ (by assumption) (by first | exact Nat.le_refl _ | omega)))
    have zw3b := yx.lt
    replace yp := yp.grow q
    replace ya := ya.grow q
    replace hS := hS.grow q
    replace o2 := o2.grow q
    replace o3 := o3.grow q
    replace G := G.trans q
    clear q
    go_wp2_with fail
    generalize w3.alloc (.cells #[.slice A3 v.length c3, .slice B3 h.length d3] 30) = w3b at *
    obtain ⟨yx0, yx1, _, _⟩ := yx.facts
    have yx2 := yx.lt
    obtain ⟨ya0, ya1, ya3⟩ := ya.facts
    have ya2 := ya.lt
    go_wp2_with fail
    go_region_held3 (fun W => W.cell? ⟨w3.heap.size, 0, none⟩ = some (.slice A3 v.length c3) ∧ W.cell? ⟨w3.heap.size, 1, none⟩ = some (.slice B3 h.length d3) ∧ W.cell? ⟨w.heap.size + 1, 0, none⟩ = some (.int .i64 kk) ∧ W.cell? ⟨w.heap.size + 1, 1, none⟩ = some (.int .i64 aa) ∧ W.cell? ⟨w.heap.size + 1, 2, none⟩ = some (.int .i64 bb))
      (first | go_keep | (go_split_ands; exact ⟨g4.cell (by assumption), g4.cell (by assumption), g4.cell (by assumption), g4.cell (by assumption), g4.cell (by assumption)⟩) | (go_split_ands; exact ⟨g41.cell (by assumption), g41.cell (by assumption), g41.cell (by assumption), g41.cell (by assumption), g41.cell (by assumption)⟩))
      (first
        | (go_at_call 15; (with_reducible refine (toAtom_c ⟨kk, aa, bb⟩ _).mono ?_); rintro e w41 ⟨rfl, g41⟩)
        | (go_at_call 16; (refine (CI.out A3 B3 c3 d3 _ (o3.st.grow (by repeat (first | exact Grow.refl _ | assumption | refine Grow.alloc ?_ _ | refine Grow.drew ?_ | refine Grow.drewN ?_ _ | refine Grow.trans ?_ (by assumption) | refine Grow.below ?_ (by assumption) (by first | exact Nat.le_refl _ | omega))))).mono ?_); rintro e w4 ⟨A4, c4, rfl, o4, g4⟩))
    clear yx0 yx1 yx2 ya0 ya1 ya2 ya3
    have q : Grow w3b w4 := (by repeat (first | exact Grow.refl _ | assumption | refine Grow.alloc ?_ _ | refine Grow.drew ?_ | refine Grow.drewN ?_ _ | refine Grow.trans ?_ (by assumption) | refine Grow.below ?_ (by assumption) (by first | exact Nat.le_refl _ | omega)))
    have zw4 := q.le
    have lg41 := g41.le
    have lg4 := g4.le
    (try simp only [World.size_alloc, World.size_drew] at lg41 lg4)
    replace o4 : OIn w4 w3b.heap.size A4 c4 rl := ⟨own_lo o4 (by (try simp only [World.size_alloc, World.size_drew]); omega)⟩
    clear lg41 lg4
    replace yp := yp.grow q
    replace ya := ya.grow q
    replace yx := yx.grow q
    replace hS := hS.grow q
    replace o2 := o2.grow q
    replace o3 := o3.grow q
    replace G := G.trans q
    clear q g41 g4 
    have b4 := o4.bd
    (try simp only [World.size_alloc, World.size_drew] at b4)
    go_wp2_with fail
    refine (eqIntS_c A4 A2 c4 c2 rl rl _ (o4.ints.grow (by repeat (first | exact Grow.refl _ | assumption | refine Grow.alloc ?_ _ | refine Grow.drew ?_ | refine Grow.drewN ?_ _ | refine Grow.trans ?_ (by assumption) | refine Grow.below ?_ (by assumption) (by first | exact Nat.le_refl _ | omega)))) (o2.ints.grow (by repeat (first | exact Grow.refl _ | assumption | refine Grow.alloc ?_ _ | refine Grow.drew ?_ | refine Grow.drewN ?_ _ | refine Grow.trans ?_ (by assumption) | refine Grow.below ?_ (by assumption) (by first | exact Nat.le_refl _ | omega)))) (by omega) (by omega)).mono ?_
    rintro e w5 ⟨rfl, g5⟩
    have q : Grow w4 w5 := (by repeat (first | exact Grow.refl _ | assumption | refine Grow.alloc ?_ _ | refine Grow.drew ?_ | refine Grow.drewN ?_ _ | refine Grow.trans ?_ (by assumption) | refine Grow.below ?_ (by assumption) (by first | exact Nat.le_refl _ | omega)))
    have zw5 := q.le
    replace yp := yp.grow q
    replace ya := ya.grow q
    replace yx := yx.grow q
    replace hS := hS.grow q
    replace o2 := o2.grow q
    replace o3 := o3.grow q
    replace o4 := o4.grow q
    replace G := G.trans q
    clear q g5
    obtain ⟨yp0, yp1, _, _⟩ := yp.facts
    have yp2 := yp.lt
    obtain ⟨yx0, yx1, _, _⟩ := yx.facts
    have yx2 := yx.lt
    go_wp2_with fail
    go_region_held3 (fun W => W.cell? ⟨w.heap.size, 0, none⟩ = some (.slice A v.length c) ∧ W.cell? ⟨w.heap.size, 1, none⟩ = some (.slice B h.length d) ∧ W.cell? ⟨w3.heap.size, 0, none⟩ = some (.slice A3 v.length c3) ∧ W.cell? ⟨w3.heap.size, 1, none⟩ = some (.slice B3 h.length d3))
      (first | go_keep | (go_split_ands; exact ⟨g7.cell (by assumption), g7.cell (by assumption), g7.cell (by assumption), g7.cell (by assumption)⟩) | (go_split_ands; exact ⟨g6.cell (by assumption), g6.cell (by assumption), g6.cell (by assumption), g6.cell (by assumption)⟩))
      (first
        | (go_at_call 14; (with_reducible refine (toState_c A B c d ⟨v, h⟩ _ (hS.grow (by repeat (first | exact Grow.refl _ | assumption | refine Grow.alloc ?_ _ | refine Grow.drew ?_ | refine Grow.drewN ?_ _ | refine Grow.trans ?_ (by assumption) | refine Grow.below ?_ (by assumption) (by first | exact Nat.le_refl _ | omega)))) h1 h2).mono ?_); rintro e w6 ⟨A6, B6, c6, d6, rfl, o6, g6⟩)
        | (go_at_call 18; refine (eqState_c A3 B3 A6 B6 c3 d3 c6 d6 ⟨v, h⟩ ⟨v, h⟩ _ (o3.st.grow (by repeat (first | exact Grow.refl _ | assumption | refine Grow.alloc ?_ _ | refine Grow.drew ?_ | refine Grow.drewN ?_ _ | refine Grow.trans ?_ (by assumption) | refine Grow.below ?_ (by assumption) (by first | exact Nat.le_refl _ | omega)))) (o6.st.grow (by repeat (first | exact Grow.refl _ | assumption | refine Grow.alloc ?_ _ | refine Grow.drew ?_ | refine Grow.drewN ?_ _ | refine Grow.trans ?_ (by assumption) | refine Grow.below ?_ (by assumption) (by first | exact Nat.le_refl _ | omega)))) (by show v.length ≤ _; omega) (by show h.length ≤ _; omega) (by show v.length ≤ _; omega) (by show h.length ≤ _; omega)).mono ?_; rintro e w7 ⟨rfl, g7⟩))
    clear yp0 yp1 yp2 yx0 yx1 yx2
    have q : Grow w5 w7 := (by repeat (first | exact Grow.refl _ | assumption | refine Grow.alloc ?_ _ | refine Grow.drew ?_ | refine Grow.drewN ?_ _ | refine Grow.trans ?_ (by assumption) | refine Grow.below ?_ (by assumption) (by first | exact Nat.le_refl _ | omega)))
    have zw7 := q.le
    replace yp := yp.grow q
    replace ya := ya.grow q
    replace yx := yx.grow q
    replace hS := hS.grow q
    replace o2 := o2.grow q
    replace o3 := o3.grow q
    replace o4 := o4.grow q
    replace G := G.trans q
    clear q g6 g7 o6
    obtain ⟨yx0, yx1, _, _⟩ := yx.facts
    have yx2 := yx.lt
    go_wp2_with fail
    refine (markState_m A3 B3 c3 d3 _ ⟨v, h⟩ 1 _ o3 (by show v.length ≤ _; omega) (by show h.length ≤ _; omega) (by omega)).mono ?_
    rintro e w8 ⟨rfl, _, mw8⟩
    clear yx0 yx1 yx2
    have zw8 := mw8.size
    replace yp := mw8.box yp b3 b3h (by omega) (by omega)
    replace ya := mw8.box3 ya b3 b3h (by omega) (by omega)
    replace yx := mw8.box yx b3 b3h (by omega) (by omega)
    replace o2 := mw8.oin o2 b2 b3 b3h (by omega) (by omega)
    replace o4 := mw8.oin o4 b4 b3 b3h (by omega) (by omega)
    replace hS : Sts w8 A B ⟨v, h⟩ := hS0.grow (mw8.grow G b3 b3h (by omega) (by omega))
    replace G := mw8.grow G b3 b3h (by omega) (by omega)
    clear mw8
    go_wp2_with fail
    refine (eqIntS_c A4 A2 c4 c2 rl rl _ (o4.ints.grow (by repeat (first | exact Grow.refl _ | assumption | refine Grow.alloc ?_ _ | refine Grow.drew ?_ | refine Grow.drewN ?_ _ | refine Grow.trans ?_ (by assumption) | refine Grow.below ?_ (by assumption) (by first | exact Nat.le_refl _ | omega)))) (o2.ints.grow (by repeat (first | exact Grow.refl _ | assumption | refine Grow.alloc ?_ _ | refine Grow.drew ?_ | refine Grow.drewN ?_ _ | refine Grow.trans ?_ (by assumption) | refine Grow.below ?_ (by assumption) (by first | exact Nat.le_refl _ | omega)))) (by omega) (by omega)).mono ?_
    rintro e w9 ⟨rfl, g9⟩
    have q : Grow w8 w9 := (by repeat (first | exact Grow.refl _ | assumption | refine Grow.alloc ?_ _ | refine Grow.drew ?_ | refine Grow.drewN ?_ _ | refine Grow.trans ?_ (by assumption) | refine Grow.below ?_ (by assumption) (by first | exact Nat.le_refl _ | omega)))
    have zw9 := q.le
    replace yp := yp.grow q
    replace ya := ya.grow q
    replace yx := yx.grow q
    replace hS := hS.grow q
    replace o2 := o2.grow q
    replace o4 := o4.grow q
    replace G := G.trans q
    clear q g9
    go_wp2_with fail
    refine (markIntS_c A4 c4 _ rl 1 _ o4.o (by omega) (by omega)).mono ?_
    rintro e w10 ⟨rfl, k4, mw10⟩
    replace mw10 := Marked.one mw10
    have zw10 := mw10.size
    replace yp := mw10.box yp b4 b4 (by omega) (by omega)
    replace ya := mw10.box3 ya b4 b4 (by omega) (by omega)
    replace yx := mw10.box yx b4 b4 (by omega) (by omega)
    replace o2 := mw10.oin o2 b2 b4 b4 (by omega) (by omega)
    replace hS : Sts w10 A B ⟨v, h⟩ := hS0.grow (mw10.grow G b4 b4 (by omega) (by omega))
    replace G := mw10.grow G b4 b4 (by omega) (by omega)
    clear mw10
    replace k4 : Ints w10 A4 (markI 1 rl.length) := OInts.ints (by rw [markI_len]) k4
    go_wp2_with fail
    refine (heldIntS_c A4 c4 1 rl.length _ k4 (by omega) (by omega)).mono ?_
    rintro e w11 ⟨rfl, rfl⟩
    obtain ⟨yp0, yp1, _, _⟩ := yp.facts
    have yp2 := yp.lt
    obtain ⟨ya0, ya1, ya3⟩ := ya.facts
    have ya2 := ya.lt
    go_wp2_with fail
    go_region_held3 (fun W => W.cell? ⟨w.heap.size, 0, none⟩ = some (.slice A v.length c) ∧ W.cell? ⟨w.heap.size, 1, none⟩ = some (.slice B h.length d) ∧ W.cell? ⟨w.heap.size + 1, 0, none⟩ = some (.int .i64 kk) ∧ W.cell? ⟨w.heap.size + 1, 1, none⟩ = some (.int .i64 aa) ∧ W.cell? ⟨w.heap.size + 1, 2, none⟩ = some (.int .i64 bb))
      (first | go_keep | (go_split_ands; exact ⟨g14.cell (by assumption), g14.cell (by assumption), g14.cell (by assumption), g14.cell (by assumption), g14.cell (by assumption)⟩) | (go_split_ands; exact ⟨g13.cell (by assumption), g13.cell (by assumption), g13.cell (by assumption), g13.cell (by assumption), g13.cell (by assumption)⟩) | (go_split_ands; exact ⟨g12.cell (by assumption), g12.cell (by assumption), g12.cell (by assumption), g12.cell (by assumption), g12.cell (by assumption)⟩))
      (first
        | (go_at_call 14; (with_reducible refine (toState_c A B c d ⟨v, h⟩ _ (hS.grow (by repeat (first | exact Grow.refl _ | assumption | refine Grow.alloc ?_ _ | refine Grow.drew ?_ | refine Grow.drewN ?_ _ | refine Grow.trans ?_ (by assumption) | refine Grow.below ?_ (by assumption) (by first | exact Nat.le_refl _ | omega)))) h1 h2).mono ?_); rintro e w12 ⟨A12, B12, c12, d12, rfl, o12, g12⟩)
        | (go_at_call 15; (with_reducible refine (toAtom_c ⟨kk, aa, bb⟩ _).mono ?_); rintro e w13 ⟨rfl, g13⟩)
        | (go_at_call 16; (refine (CI.out A12 B12 c12 d12 _ (o12.st.grow (by repeat (first | exact Grow.refl _ | assumption | refine Grow.alloc ?_ _ | refine Grow.drew ?_ | refine Grow.drewN ?_ _ | refine Grow.trans ?_ (by assumption) | refine Grow.below ?_ (by assumption) (by first | exact Nat.le_refl _ | omega))))).mono ?_); rintro e w14 ⟨A14, c14, rfl, o14, g14⟩))
    clear yp0 yp1 yp2 ya0 ya1 ya2 ya3
    have q : Grow w10 w14 := (by repeat (first | exact Grow.refl _ | assumption | refine Grow.alloc ?_ _ | refine Grow.drew ?_ | refine Grow.drewN ?_ _ | refine Grow.trans ?_ (by assumption) | refine Grow.below ?_ (by assumption) (by first | exact Nat.le_refl _ | omega)))
    have zw14 := q.le
    replace yp := yp.grow q
    replace ya := ya.grow q
    replace yx := yx.grow q
    replace hS := hS.grow q
    replace o2 := o2.grow q
    replace k4 := k4.grow q
    replace G := G.trans q
    clear q g12 g13 g14 o12
    replace o14 : OIn w14 _ A14 c14 rl := ⟨o14⟩
    go_wp2_with fail
    refine (eqIntS_c A14 A2 c14 c2 rl rl _ (o14.ints.grow (by repeat (first | exact Grow.refl _ | assumption | refine Grow.alloc ?_ _ | refine Grow.drew ?_ | refine Grow.drewN ?_ _ | refine Grow.trans ?_ (by assumption) | refine Grow.below ?_ (by assumption) (by first | exact Nat.le_refl _ | omega)))) (o2.ints.grow (by repeat (first | exact Grow.refl _ | assumption | refine Grow.alloc ?_ _ | refine Grow.drew ?_ | refine Grow.drewN ?_ _ | refine Grow.trans ?_ (by assumption) | refine Grow.below ?_ (by assumption) (by first | exact Nat.le_refl _ | omega)))) (by omega) (by omega)).mono ?_
    rintro e w15 ⟨rfl, g15⟩
    have q : Grow w14 w15 := (by repeat (first | exact Grow.refl _ | assumption | refine Grow.alloc ?_ _ | refine Grow.drew ?_ | refine Grow.drewN ?_ _ | refine Grow.trans ?_ (by assumption) | refine Grow.below ?_ (by assumption) (by first | exact Nat.le_refl _ | omega)))
    have zw15 := q.le
    replace yp := yp.grow q
    replace ya := ya.grow q
    replace yx := yx.grow q
    replace hS := hS.grow q
    replace o2 := o2.grow q
    replace k4 := k4.grow q
    replace G := G.trans q
    clear q g15
    go_wp2_with fail
    refine (heldIntS_c A4 c4 1 rl.length _ k4 (by omega) (by omega)).mono ?_
    rintro e w11 ⟨rfl, rfl⟩
    go_wp2_with fail
    go_ret
    exact ⟨rfl, G⟩
  · have hs := Lib.hid (show szv2 v.length h.length 1048576 = -1 by unfold szv2; rw [if_pos (by omega)])
    go_enter Try.func3, Try.ntmps3
    go_wp2_with fail
    refine (szState_c A B v.length h.length c d 1048576 _ hn hm (by omega) (by omega)).mono ?_
    rintro e w0 ⟨rfl, g0⟩
    rw [hs.out]
    go_wp2_with fail
    go_ret
    exact ⟨rfl, (by repeat (first | exact Grow.refl _ | assumption | refine Grow.alloc ?_ _ | refine Grow.drew ?_ | refine Grow.drewN ?_ _ | refine Grow.trans ?_ (by assumption) | refine Grow.below ?_ (by assumption) (by first | exact Nat.le_refl _ | omega)))⟩

set_option maxRecDepth 100000 in
theorem lifted (os : Os) (started : os.Started) (H : Type) (enc : TypeId × Value → H) :
    ReturnsInHanded {} Try.checked os 3 .any (Rows.fnExactAtomCellsSpec.pre6 enc Try.prog Try.f3 Rows.fnExactAtomCellsRow.domain false) (Rows.fnExactAtomCellsSpec.post enc Try.prog Try.f3 false true false false) := by
  refine returnsInHanded_of_change (C := Try.checked) own_knob started (by kernel_rfl) Try.func3
    (ChangeSpec.witness6 (enc := enc) (C := Try.checked) false ⟨#[], #[.agg #[.slice none 0 0, .slice none 0 0], .agg #[.int .i64 0, .int .i64 0, .int .i64 0]], []⟩ 8 (by kernel_rfl) (by kernel_rfl) (by kernel_rfl) (by kernel_rfl)) ?_
  intro W base args ds gs before hval0 hW hcnd _
  have hval : ∀ (j : Nat) t v, Try.f3.params[j]? = some t → args[j]? = some v → Value.okWide Try.prog W .any base t v := hval0
  have hW' := hW
  obtain ⟨p, q, hA0, hV, rfl, hfz, hnd⟩ := hW
  have hA : DataW.TrodAll enc Try.prog W 0 (fun _ => true) true Try.f3.params.toList args.toList ds p := hA0
  rw [Try.params3] at hA hval
  obtain ⟨v0, vs0, d0, ds0, p0, q0, hargs, rfl, rfl, h0, r0⟩ := trodAll_cons hA
  obtain ⟨v1, vs1, d1, ds1, p1, q1, rfl, rfl, rfl, h1, r1⟩ := trodAll_cons r0
  obtain ⟨rfl, rfl, rfl⟩ := trodAll_nil r1
  obtain rfl : args = #[v0, v1] := by cases args; simp_all
  obtain ⟨rfl, rfl⟩ := trodVars_none hV
  have k0 := h0
  have lt0 : ∀ x ∈ p0, x.block < W.heap.size := by obtain ⟨m, hm⟩ := k0; exact DataW.trod_lt m _ _ _ hm
  obtain ⟨a0, b0, c0, d0, l0, m0, rfl, w0, y0, hb0, hc0⟩ := open_stateV (hval 0 24 v0 rfl rfl) h0
  have k1 := h1
  have lt1 : ∀ x ∈ p1, x.block < W.heap.size := by obtain ⟨m, hm⟩ := k1; exact DataW.trod_lt m _ _ _ hm
  obtain ⟨f1, rfl, hb1⟩ := open_atomV (hval 1 26 v1 rfl rfl) h1
  clear hA0 hval0
  refine (walk a0 c0 l0 b0 d0 m0 f1 W w0 y0 hb0 hc0 hb1).mono fun e W' ⟨he, bel⟩ => ?_
  subst he
  exact ⟨_, rfl, _, _, _, [], _, [], hW', trodAll_mk1 (shut_bool Try.underlying4 _), (trodAll_cons_mk (Below.trod laid_out (by kernel_rfl) (of_decide_eq_true (by kernel_rfl)) k0 bel lt0) (trodAll_cons_mk (Below.trod laid_out (by kernel_rfl) (of_decide_eq_true (by kernel_rfl)) k1 bel lt1) trodAll_mk0)), rfl, bel.frame _, fun h => by cases h⟩

theorem over : Rows.fnExactAtomCellsRow.holds Try.pinned (OpenSpec.ofChange Rows.fnExactAtomCellsSpec) :=
  OpenClaim.holds_of_wide 3 Try.f3 rfl rfl rfl rfl rfl rfl rfl ⟨rfl, rfl, rfl, rfl, rfl⟩ rfl rfl rfl rfl rfl (by kernel_rfl) Try.func3 (by kernel_rfl)
    (of_decide_eq_true (by kernel_rfl)) (by unfold Func.isWrapper; first | (rw [if_pos (by decide +kernel)]; kernel_rfl) | (rw [if_neg (by decide +kernel)]; exact ⟨rfl, rfl⟩))
    (fun os started H enc _ => lifted os started H enc)

/-- The statement. -/
theorem proved : Rows.FnExactAtomCellsSaid := over
#print axioms proved

end Go.Proofs.Ytcipmmieiafpbaa.lawFnExactAtomCells
