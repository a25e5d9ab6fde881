/- FnExactJoinStates: for all states the program's JoinStates answers as the reference does and leaves its arguments alone. No conditions. -/
import Derived.Test.YtcipmmieiafpbaaStM
import Derived.Test.YtcipmmieiafpbaaJn
import Derived.Test.YtcipmmieiafpbaaJn3
import Derived.Test.YtcipmmieiafpbaaRowAid
import Derived.Deep.DeepCutAuto
namespace Go.Proofs.Ytcipmmieiafpbaa.lawFnExactJoinStates
open Go.ChangeShapes Go.WideShapes Go.ChangeAt Go.RowKit Go.Joins Go.Deep
open Go.ChangeMaps (open_string shut_string)
set_option linter.unusedVariables false
set_option linter.unusedSimpArgs false

set_option maxRecDepth 100000 in
set_option maxHeartbeats 6400000 in
theorem walk (A : Option Addr) (c : Nat) (v : List Int) (B : Option Addr) (d : Nat) (h : List Int) (A9 : Option Addr) (c9 : Nat) (v9 : List Int) (B9 : Option Addr) (d9 : Nat) (h9 : List Int) (w : World) (hA : Ints w A v) (hB : Ints w B h) (hn : v.length ≤ 9223372036854775807) (hm : h.length ≤ 9223372036854775807) (hA9 : Ints w A9 v9) (hB9 : Ints w B9 h9) (hn9 : v9.length ≤ 9223372036854775807) (hm9 : h9.length ≤ 9223372036854775807) :
    Calls Try.prog 6 #[.agg #[.slice A v.length c, .slice B h.length d], .agg #[.slice A9 v9.length c9, .slice B9 h9.length d9]] w fun e w' => e = .returned (.bool true) ∧ Grow w w' := by
  have hS0 : Sts w A B ⟨v, h⟩ := ⟨hA, hB⟩
  have hT0 : Sts w A9 B9 ⟨v9, h9⟩ := ⟨hA9, hB9⟩
  have yp0 := (Box2.new w 24 (.slice A v.length c) (.slice B h.length d)).grow (show Grow _ ((w.alloc (.cells #[.slice A v.length c, .slice B h.length d] 24)).alloc (.cells #[.slice A9 v9.length c9, .slice B9 h9.length d9] 24)) from Grow.alloc (Grow.refl _) _)
  have yq0 := Box2.new (w.alloc (.cells #[.slice A v.length c, .slice B h.length d] 24)) 24 (.slice A9 v9.length c9) (.slice B9 h9.length d9)
  simp only [World.size_alloc] at yq0
  have G0 : Grow w ((w.alloc (.cells #[.slice A v.length c, .slice B h.length d] 24)).alloc (.cells #[.slice A9 v9.length c9, .slice B9 h9.length d9] 24)) := (by repeat (first | exact Grow.refl _ | assumption | refine Grow.alloc ?_ _ | refine Grow.drew ?_ | refine Grow.drewN ?_ _ | refine Grow.trans ?_ (by assumption) | refine Grow.below ?_ (by assumption) (by first | exact Nat.le_refl _ | omega)))
  have hsz : ((w.alloc (.cells #[.slice A v.length c, .slice B h.length d] 24)).alloc (.cells #[.slice A9 v9.length c9, .slice B9 h9.length d9] 24)).heap.size = w.heap.size + 1 + 1 := by simp
  have HSZ := Lib.hid hsz
  clear hsz
  by_cases h20 : v.length + h.length ≤ 1048576
  · have hs := Lib.hid (show szv2 v.length h.length 1048576 = 1048576 - v.length - h.length by unfold szv2; rw [if_neg (by omega)])
    have h1 : v.length ≤ 1048576 := by omega
    have h2 : h.length ≤ 1048576 := by omega
    go_enter Try.func6, Try.ntmps6
    go_wp2_with fail
    generalize (w.alloc (.cells #[.slice A v.length c, .slice B h.length d] 24)).alloc (.cells #[.slice A9 v9.length c9, .slice B9 h9.length d9] 24) = wz at *
    have hS := hS0.grow G0
    have hT := hT0.grow G0
    have G := G0
    clear hA hB hA9 hB9
    refine (szState_c A B v.length h.length c d 1048576 _ hn hm (by omega) (by omega)).mono ?_
    rintro e w0 ⟨rfl, g0⟩
    have q : Grow wz w0 := (by repeat (first | exact Grow.refl _ | assumption | refine Grow.alloc ?_ _ | refine Grow.drew ?_ | refine Grow.drewN ?_ _ | refine Grow.trans ?_ (by assumption) | refine Grow.below ?_ (by assumption) (by first | exact Nat.le_refl _ | omega)))
    have zw0 := q.le
    replace yp0 := yp0.grow q
    replace yq0 := yq0.grow q
    replace hS := hS.grow q
    replace hT := hT.grow q
    replace G := G.trans q
    clear q g0
    rw [hs.out]
    by_cases h21 : v9.length + h9.length ≤ 1048576 - v.length - h.length
    · have hs9 := Lib.hid (show szv2 v9.length h9.length (1048576 - v.length - h.length : Int) = 1048576 - v.length - h.length - v9.length - h9.length by unfold szv2; rw [if_neg (by omega)])
      have h3 : v9.length ≤ 1048576 := by omega
      have h4 : h9.length ≤ 1048576 := by omega
      obtain ⟨r, hr⟩ : ∃ r, r = Pl.joinS ⟨v, h⟩ ⟨v9, h9⟩ := ⟨_, rfl⟩
      have hl : r.1.v.length ≤ 1048576 ∧ r.1.h.length ≤ 1048576 := by rw [hr]; exact Pl.joinS_len _ _ h1 h2
      have CS := Lib.hid (show ∀ A B c d A9 B9 c9 d9 W, Sts W A B ⟨v, h⟩ → Sts W A9 B9 ⟨v9, h9⟩ → Calls Try.prog 28 #[sval A B c d ⟨v, h⟩, sval A9 B9 c9 d9 ⟨v9, h9⟩] W (RSt W r) from fun A B c d A9 B9 c9 d9 W k k9 => by rw [hr]; exact sJoinStates_c A B A9 B9 c d c9 d9 ⟨v, h⟩ ⟨v9, h9⟩ W k k9 (by show v.length ≤ _; omega) (by show h.length ≤ _; omega) (by show v9.length ≤ _; omega) (by show h9.length ≤ _; omega))
      have CI := Lib.hid (show ∀ A B c d A9 B9 c9 d9 W, Sts W A B ⟨v, h⟩ → Sts W A9 B9 ⟨v9, h9⟩ → Calls Try.prog 29 #[sval A B c d ⟨v, h⟩, sval A9 B9 c9 d9 ⟨v9, h9⟩] W (RSt W r) from fun A B c d A9 B9 c9 d9 W k k9 => by rw [hr]; exact JoinStates_c A B A9 B9 c d c9 d9 ⟨v, h⟩ ⟨v9, h9⟩ W k k9 (by show v.length ≤ _; omega) (by show h.length ≤ _; omega) (by show v9.length ≤ _; omega) (by show h9.length ≤ _; omega))
      obtain ⟨⟨rv, rh⟩, rb⟩ := r
      have hl1 : rv.length ≤ 1048576 := hl.1
      have hl2 : rh.length ≤ 1048576 := hl.2
      clear hr hl
      obtain ⟨yq00, yq01, _, _⟩ := yq0.facts
      have yq02 := yq0.lt
      go_wp2_with fail
      refine (szState_c A9 B9 v9.length h9.length c9 d9 (1048576 - v.length - h.length) _ hn9 hm9 (by omega) (by omega)).mono ?_
      rintro e w1 ⟨rfl, g1⟩
      clear yq00 yq01 yq02
      have q : Grow w0 w1 := (by repeat (first | exact Grow.refl _ | assumption | refine Grow.alloc ?_ _ | refine Grow.drew ?_ | refine Grow.drewN ?_ _ | refine Grow.trans ?_ (by assumption) | refine Grow.below ?_ (by assumption) (by first | exact Nat.le_refl _ | omega)))
      have zw1 := q.le
      replace yp0 := yp0.grow q
      replace yq0 := yq0.grow q
      replace hS := hS.grow q
      replace hT := hT.grow q
      replace G := G.trans q
      clear q g1
      rw [hs9.out]
      clear hs hs9
      obtain ⟨yp00, yp01, _, _⟩ := yp0.facts
      have yp02 := yp0.lt
      obtain ⟨yq00, yq01, _, _⟩ := yq0.facts
      have yq02 := yq0.lt
      have l0 := yp0.lt
      have l1 := yq0.lt
      go_wp2_with fail
      go_cut [6, 7] (fun s1 s2 wx => ∃ g A B c d, s1 = Value.pointer (some ⟨g, 0, none⟩) ∧ s2 = Value.bool rb ∧ Box2 wx g 30 (.slice A rv.length c) (.slice B rh.length d) ∧ OSt wx w1.heap.size A B c d ⟨rv, rh⟩ ∧ Grow w1 wx)
      case first =>
        go_region_held3 (fun W => W.cell? ⟨w.heap.size, 0, none⟩ = some (.slice A v.length c) ∧ W.cell? ⟨w.heap.size, 1, none⟩ = some (.slice B h.length d) ∧ W.cell? ⟨w.heap.size + 1, 0, none⟩ = some (.slice A9 v9.length c9) ∧ W.cell? ⟨w.heap.size + 1, 1, none⟩ = some (.slice B9 h9.length d9))
          (first
            | (refine ⟨?_, ?_, ?_, ?_⟩ <;> (go_keep; done))
            | exact ⟨(Grow.alloc (Grow.refl _) _).cell s0, (Grow.alloc (Grow.refl _) _).cell s1, (Grow.alloc (Grow.refl _) _).cell s2, (Grow.alloc (Grow.refl _) _).cell s3⟩
            | exact ⟨cellFar2 (by omega) s0, cellFar2 (by omega) s1, cellFar2 (by omega) s2, cellFar2 (by omega) s3⟩
            | (go_split_ands; exact ⟨g23.cell (by assumption), g23.cell (by assumption), g23.cell (by assumption), g23.cell (by assumption)⟩)
            | (go_split_ands; exact ⟨g22.cell (by assumption), g22.cell (by assumption), g22.cell (by assumption), g22.cell (by assumption)⟩)
            | (go_split_ands; exact ⟨g21.cell (by assumption), g21.cell (by assumption), g21.cell (by assumption), g21.cell (by assumption)⟩)
            | fail)
          (first
            | (go_at_call 14; (with_reducible refine (toState_c A B c d ⟨v, h⟩ _ (hS.grow (by repeat (first | exact Grow.refl _ | assumption | refine Grow.alloc ?_ _ | refine Grow.drew ?_ | refine Grow.drewN ?_ _ | refine Grow.trans ?_ (by assumption) | refine Grow.below ?_ (by assumption) (by first | exact Nat.le_refl _ | omega)))) h1 h2).mono ?_); rintro e w21 ⟨A21, B21, c21, d21, rfl, o21, g21⟩)
            | (go_at_call 14; (with_reducible refine (toState_c A9 B9 c9 d9 ⟨v9, h9⟩ _ (hT.grow (by repeat (first | exact Grow.refl _ | assumption | refine Grow.alloc ?_ _ | refine Grow.drew ?_ | refine Grow.drewN ?_ _ | refine Grow.trans ?_ (by assumption) | refine Grow.below ?_ (by assumption) (by first | exact Nat.le_refl _ | omega)))) h3 h4).mono ?_); rintro e w22 ⟨A22, B22, c22, d22, rfl, o22, g22⟩)
            | (go_at_call 28; refine (CS.out A21 B21 c21 d21 A22 B22 c22 d22 _ (o21.st.grow (by repeat (first | exact Grow.refl _ | assumption | refine Grow.alloc ?_ _ | refine Grow.drew ?_ | refine Grow.drewN ?_ _ | refine Grow.trans ?_ (by assumption) | refine Grow.below ?_ (by assumption) (by first | exact Nat.le_refl _ | omega)))) (o22.st.grow (by repeat (first | exact Grow.refl _ | assumption | refine Grow.alloc ?_ _ | refine Grow.drew ?_ | refine Grow.drewN ?_ _ | refine Grow.trans ?_ (by assumption) | refine Grow.below ?_ (by assumption) (by first | exact Nat.le_refl _ | omega))))).mono ?_; rintro e w23 ⟨A23, B23, c23, d23, rfl, o23, g23⟩; obtain ⟨s0, s1, s2, s3⟩ : w23.cell? ⟨w.heap.size, 0, none⟩ = some (.slice A v.length c) ∧ w23.cell? ⟨w.heap.size, 1, none⟩ = some (.slice B h.length d) ∧ w23.cell? ⟨w.heap.size + 1, 0, none⟩ = some (.slice A9 v9.length c9) ∧ w23.cell? ⟨w.heap.size + 1, 1, none⟩ = some (.slice B9 h9.length d9) := (by go_split_ands; exact ⟨g23.cell (by assumption), g23.cell (by assumption), g23.cell (by assumption), g23.cell (by assumption)⟩); have z21 := g21.le; have z22 := g22.le; have z23 := g23.le; (try simp only [World.size_alloc, World.size_drew] at z21 z22 z23); (first | (have yb : Box2 w23 w22.heap.size 30 (.slice none 0 0) (.slice none 0 0) := g23.heap (heap_alloc_new w22 _)) | (have yb : Box2 w23 w21.heap.size 30 (.slice none 0 0) (.slice none 0 0) := g23.heap (g22.heap (heap_alloc_new w21 _))) | (have yb : Box2 w23 w1.heap.size 30 (.slice none 0 0) (.slice none 0 0) := g23.heap (g22.heap (g21.heap (heap_alloc_new w1 _)))) | skip); try (obtain ⟨j0, j1, e0, e1⟩ := yb.facts)))
        all_goals
          have bb := o23.bdv
          have bbh := o23.bdh
          (try simp only [World.size_alloc, World.size_drew] at bb bbh)
          clear yp00 yp01 yp02 yq00 yq01 yq02 s0 s1 s2 s3
        · have o2 : OSt (w23.alloc (.cells #[.slice A23 rv.length c23, .slice B23 rh.length d23] 30)) w1.heap.size A23 B23 c23 d23 ⟨rv, rh⟩ := (o23.grow (Grow.alloc (Grow.refl _) _)).lo (by (try simp only [World.size_alloc, World.size_drew]); omega)
          have yw := Box2.new w23 30 (.slice A23 rv.length c23) (.slice B23 rh.length d23)
          have q : Grow w1 (w23.alloc (.cells #[.slice A23 rv.length c23, .slice B23 rh.length d23] 30)) := (by repeat (first | exact Grow.refl _ | assumption | refine Grow.alloc ?_ _ | refine Grow.drew ?_ | refine Grow.drewN ?_ _ | refine Grow.trans ?_ (by assumption) | refine Grow.below ?_ (by assumption) (by first | exact Nat.le_refl _ | omega)))
          clear g21 g22 g23 o21 o22 o23
          go_wp2_with fail
          go_meet
          case rel => exact ⟨_, _, _, _, _, rfl, rfl, yw, o2, q⟩
        · have o2 : OSt ((w23.setCell ⟨w22.heap.size, 0, none⟩ (.slice A23 rv.length c23)).setCell ⟨w22.heap.size, 1, none⟩ (.slice B23 rh.length d23)) w1.heap.size A23 B23 c23 d23 ⟨rv, rh⟩ := ((o23.far (by show w22.heap.size < _; (try simp only [World.size_alloc, World.size_drew]); omega) _).far (by show w22.heap.size < _; (try simp only [World.size_alloc, World.size_drew]); omega) _).lo (by (try simp only [World.size_alloc, World.size_drew]); omega)
          have yw := (yb.set0 (.slice A23 rv.length c23)).set1 (.slice B23 rh.length d23)
          have q : Grow w1 ((w23.setCell ⟨w22.heap.size, 0, none⟩ (.slice A23 rv.length c23)).setCell ⟨w22.heap.size, 1, none⟩ (.slice B23 rh.length d23)) := Grow.setCell (Grow.setCell (by repeat (first | exact Grow.refl _ | assumption | refine Grow.alloc ?_ _ | refine Grow.drew ?_ | refine Grow.drewN ?_ _ | refine Grow.trans ?_ (by assumption) | refine Grow.below ?_ (by assumption) (by first | exact Nat.le_refl _ | omega))) (by show w1.heap.size ≤ w22.heap.size; omega) _) (by show w1.heap.size ≤ w22.heap.size; omega) _
          clear j0 j1 e0 e1 yb
          clear g21 g22 g23 o21 o22 o23
          go_wp2_with fail
          go_meet
          case rel => exact ⟨_, _, _, _, _, rfl, rfl, yw, o2, q⟩
        · have o2 : OSt ((w23.setCell ⟨w21.heap.size, 0, none⟩ (.slice A23 rv.length c23)).setCell ⟨w21.heap.size, 1, none⟩ (.slice B23 rh.length d23)) w1.heap.size A23 B23 c23 d23 ⟨rv, rh⟩ := ((o23.far (by show w21.heap.size < _; (try simp only [World.size_alloc, World.size_drew]); omega) _).far (by show w21.heap.size < _; (try simp only [World.size_alloc, World.size_drew]); omega) _).lo (by (try simp only [World.size_alloc, World.size_drew]); omega)
          have yw := (yb.set0 (.slice A23 rv.length c23)).set1 (.slice B23 rh.length d23)
          have q : Grow w1 ((w23.setCell ⟨w21.heap.size, 0, none⟩ (.slice A23 rv.length c23)).setCell ⟨w21.heap.size, 1, none⟩ (.slice B23 rh.length d23)) := Grow.setCell (Grow.setCell (by repeat (first | exact Grow.refl _ | assumption | refine Grow.alloc ?_ _ | refine Grow.drew ?_ | refine Grow.drewN ?_ _ | refine Grow.trans ?_ (by assumption) | refine Grow.below ?_ (by assumption) (by first | exact Nat.le_refl _ | omega))) (by show w1.heap.size ≤ w21.heap.size; omega) _) (by show w1.heap.size ≤ w21.heap.size; omega) _
          clear j0 j1 e0 e1 yb
          clear g21 g22 g23 o21 o22 o23
          go_wp2_with fail
          go_meet
          case rel => exact ⟨_, _, _, _, _, rfl, rfl, yw, o2, q⟩
        · have o2 : OSt ((w23.setCell ⟨w1.heap.size, 0, none⟩ (.slice A23 rv.length c23)).setCell ⟨w1.heap.size, 1, none⟩ (.slice B23 rh.length d23)) w1.heap.size A23 B23 c23 d23 ⟨rv, rh⟩ := ((o23.far (by show w1.heap.size < _; (try simp only [World.size_alloc, World.size_drew]); omega) _).far (by show w1.heap.size < _; (try simp only [World.size_alloc, World.size_drew]); omega) _).lo (by (try simp only [World.size_alloc, World.size_drew]); omega)
          have yw := (yb.set0 (.slice A23 rv.length c23)).set1 (.slice B23 rh.length d23)
          have q : Grow w1 ((w23.setCell ⟨w1.heap.size, 0, none⟩ (.slice A23 rv.length c23)).setCell ⟨w1.heap.size, 1, none⟩ (.slice B23 rh.length d23)) := Grow.setCell (Grow.setCell (by repeat (first | exact Grow.refl _ | assumption | refine Grow.alloc ?_ _ | refine Grow.drew ?_ | refine Grow.drewN ?_ _ | refine Grow.trans ?_ (by assumption) | refine Grow.below ?_ (by assumption) (by first | exact Nat.le_refl _ | omega))) (by show w1.heap.size ≤ w1.heap.size; omega) _) (by show w1.heap.size ≤ w1.heap.size; omega) _
          clear j0 j1 e0 e1 yb
          clear g21 g22 g23 o21 o22 o23
          go_wp2_with fail
          go_meet
          case rel => exact ⟨_, _, _, _, _, rfl, rfl, yw, o2, q⟩
      case rest =>
        obtain ⟨gyw, A23, B23, c23, d23, rfl, rfl, yw, o2, q⟩ := hcut
        obtain ⟨w20, rfl⟩ : ∃ w20 : World, w20 = wc := ⟨_, rfl⟩
        have zb2 := yw.lt
        replace yp0 := yp0.grow q
        replace yq0 := yq0.grow q
        replace hS := hS.grow q
        replace hT := hT.grow q
        replace G := G.trans q
        have hzz2 := q.le
        clear q l0 l1
        clear yp00 yp01 yp02 yq00 yq01 yq02
        have b2 := o2.bdv
        have b2h := o2.bdh
        have hz0 := HSZ.out
        obtain ⟨yp00, yp01, _, _⟩ := yp0.facts
        have yp02 := yp0.lt
        go_wp2_with fail
        refine (toState_c A B c d ⟨v, h⟩ _ (hS.grow (by repeat (first | exact Grow.refl _ | assumption | refine Grow.alloc ?_ _ | refine Grow.drew ?_ | refine Grow.drewN ?_ _ | refine Grow.trans ?_ (by assumption) | refine Grow.below ?_ (by assumption) (by first | exact Nat.le_refl _ | omega)))) h1 h2).mono ?_
        rintro e w3 ⟨A3, B3, c3, d3, rfl, o3, g3⟩
        clear yp00 yp01 yp02
        have q : Grow w20 w3 := (by repeat (first | exact Grow.refl _ | assumption | refine Grow.alloc ?_ _ | refine Grow.drew ?_ | refine Grow.drewN ?_ _ | refine Grow.trans ?_ (by assumption) | refine Grow.below ?_ (by assumption) (by first | exact Nat.le_refl _ | omega)))
        have zw3 := q.le
        replace yp0 := yp0.grow q
        replace yq0 := yq0.grow q
        replace yw := yw.grow q
        replace hS := hS.grow q
        replace hT := hT.grow q
        replace o2 := o2.grow q
        replace G := G.trans q
        clear q g3
        have b3 := o3.bdv
        have b3h := o3.bdh
        obtain ⟨yq00, yq01, _, _⟩ := yq0.facts
        have yq02 := yq0.lt
        go_wp2_with fail
        refine (toState_c A9 B9 c9 d9 ⟨v9, h9⟩ _ (hT.grow (by repeat (first | exact Grow.refl _ | assumption | refine Grow.alloc ?_ _ | refine Grow.drew ?_ | refine Grow.drewN ?_ _ | refine Grow.trans ?_ (by assumption) | refine Grow.below ?_ (by assumption) (by first | exact Nat.le_refl _ | omega)))) h3 h4).mono ?_
        rintro e w4 ⟨A4, B4, c4, d4, rfl, o4, g4⟩
        clear yq00 yq01 yq02
        have q : Grow w3 w4 := (by repeat (first | exact Grow.refl _ | assumption | refine Grow.alloc ?_ _ | refine Grow.drew ?_ | refine Grow.drewN ?_ _ | refine Grow.trans ?_ (by assumption) | refine Grow.below ?_ (by assumption) (by first | exact Nat.le_refl _ | omega)))
        have yx := (Box2.new w3 30 (.slice A3 v.length c3) (.slice B3 h.length d3)).grow g4
        have zw4 := yx.lt
        replace yp0 := yp0.grow q
        replace yq0 := yq0.grow q
        replace yw := yw.grow q
        replace hS := hS.grow q
        replace hT := hT.grow q
        replace o2 := o2.grow q
        replace o3 := o3.grow q
        replace G := G.trans q
        clear q g4
        have b4 := o4.bdv
        have b4h := o4.bdh
        simp only [World.size_alloc] at b4 b4h
        obtain ⟨yx0, yx1, _, _⟩ := yx.facts
        have yx2 := yx.lt
        go_wp2_with fail
        refine (CI.out A3 B3 c3 d3 A4 B4 c4 d4 _ (o3.st.grow (by repeat (first | exact Grow.refl _ | assumption | refine Grow.alloc ?_ _ | refine Grow.drew ?_ | refine Grow.drewN ?_ _ | refine Grow.trans ?_ (by assumption) | refine Grow.below ?_ (by assumption) (by first | exact Nat.le_refl _ | omega)))) (o4.st.grow (by repeat (first | exact Grow.refl _ | assumption | refine Grow.alloc ?_ _ | refine Grow.drew ?_ | refine Grow.drewN ?_ _ | refine Grow.trans ?_ (by assumption) | refine Grow.below ?_ (by assumption) (by first | exact Nat.le_refl _ | omega))))).mono ?_
        rintro e w5 ⟨A5, B5, c5, d5, rfl, o5, g5⟩
        clear yx0 yx1 yx2
        have q : Grow w4 w5 := (by repeat (first | exact Grow.refl _ | assumption | refine Grow.alloc ?_ _ | refine Grow.drew ?_ | refine Grow.drewN ?_ _ | refine Grow.trans ?_ (by assumption) | refine Grow.below ?_ (by assumption) (by first | exact Nat.le_refl _ | omega)))
        have yy := (Box2.new w4 30 (.slice A4 v9.length c4) (.slice B4 h9.length d4)).grow g5
        have zw5 := yy.lt
        replace yp0 := yp0.grow q
        replace yq0 := yq0.grow q
        replace yw := yw.grow q
        replace yx := yx.grow q
        replace hS := hS.grow q
        replace hT := hT.grow q
        replace o2 := o2.grow q
        replace o3 := o3.grow q
        replace o4 := o4.grow q
        replace G := G.trans q
        clear q g5
        have b5 := o5.bdv
        have b5h := o5.bdh
        simp only [World.size_alloc] at b5 b5h
        obtain ⟨yw0, yw1, _, _⟩ := yw.facts
        have yw2 := yw.lt
        go_wp2_with fail
        refine (eqState_c A5 B5 A23 B23 c5 d5 c23 d23 ⟨rv, rh⟩ ⟨rv, rh⟩ _ (o5.st.grow (by repeat (first | exact Grow.refl _ | assumption | refine Grow.alloc ?_ _ | refine Grow.drew ?_ | refine Grow.drewN ?_ _ | refine Grow.trans ?_ (by assumption) | refine Grow.below ?_ (by assumption) (by first | exact Nat.le_refl _ | omega)))) (o2.st.grow (by repeat (first | exact Grow.refl _ | assumption | refine Grow.alloc ?_ _ | refine Grow.drew ?_ | refine Grow.drewN ?_ _ | refine Grow.trans ?_ (by assumption) | refine Grow.below ?_ (by assumption) (by first | exact Nat.le_refl _ | omega)))) (by show rv.length ≤ _; omega) (by show rh.length ≤ _; omega) (by show rv.length ≤ _; omega) (by show rh.length ≤ _; omega)).mono ?_
        rintro e w6 ⟨rfl, g6⟩
        clear yw0 yw1 yw2
        have q : Grow w5 w6 := (by repeat (first | exact Grow.refl _ | assumption | refine Grow.alloc ?_ _ | refine Grow.drew ?_ | refine Grow.drewN ?_ _ | refine Grow.trans ?_ (by assumption) | refine Grow.below ?_ (by assumption) (by first | exact Nat.le_refl _ | omega)))
        have yg := (Box2.new w5 30 (.slice A5 rv.length c5) (.slice B5 rh.length d5)).grow g6
        have zw6 := yg.lt
        replace yp0 := yp0.grow q
        replace yq0 := yq0.grow q
        replace yw := yw.grow q
        replace yx := yx.grow q
        replace yy := yy.grow q
        replace hS := hS.grow q
        replace hT := hT.grow q
        replace o2 := o2.grow q
        replace o3 := o3.grow q
        replace o4 := o4.grow q
        replace o5 := o5.grow q
        replace G := G.trans q
        clear q g6
        go_wp2_with fail
        obtain ⟨yp00, yp01, _, _⟩ := yp0.facts
        have yp02 := yp0.lt
        obtain ⟨yx0, yx1, _, _⟩ := yx.facts
        have yx2 := yx.lt
        go_region_held3 (fun W => W.cell? ⟨w.heap.size, 0, none⟩ = some (.slice A v.length c) ∧ W.cell? ⟨w.heap.size, 1, none⟩ = some (.slice B h.length d) ∧ W.cell? ⟨w3.heap.size, 0, none⟩ = some (.slice A3 v.length c3) ∧ W.cell? ⟨w3.heap.size, 1, none⟩ = some (.slice B3 h.length d3))
          (first | go_keep | (go_split_ands; exact ⟨g72.cell (by assumption), g72.cell (by assumption), g72.cell (by assumption), g72.cell (by assumption)⟩) | (go_split_ands; exact ⟨g71.cell (by assumption), g71.cell (by assumption), g71.cell (by assumption), g71.cell (by assumption)⟩))
          (first
            | (go_at_call 14; (with_reducible refine (toState_c A B c d ⟨v, h⟩ _ (hS.grow (by repeat (first | exact Grow.refl _ | assumption | refine Grow.alloc ?_ _ | refine Grow.drew ?_ | refine Grow.drewN ?_ _ | refine Grow.trans ?_ (by assumption) | refine Grow.below ?_ (by assumption) (by first | exact Nat.le_refl _ | omega)))) h1 h2).mono ?_); rintro e w71 ⟨A71, B71, c71, d71, rfl, o71, g71⟩)
            | (go_at_call 18; refine (eqState_c A3 B3 A71 B71 c3 d3 c71 d71 ⟨v, h⟩ ⟨v, h⟩ _ (o3.st.grow (by repeat (first | exact Grow.refl _ | assumption | refine Grow.alloc ?_ _ | refine Grow.drew ?_ | refine Grow.drewN ?_ _ | refine Grow.trans ?_ (by assumption) | refine Grow.below ?_ (by assumption) (by first | exact Nat.le_refl _ | omega)))) (o71.st.grow (by repeat (first | exact Grow.refl _ | assumption | refine Grow.alloc ?_ _ | refine Grow.drew ?_ | refine Grow.drewN ?_ _ | refine Grow.trans ?_ (by assumption) | refine Grow.below ?_ (by assumption) (by first | exact Nat.le_refl _ | omega)))) (by show v.length ≤ _; omega) (by show h.length ≤ _; omega) (by show v.length ≤ _; omega) (by show h.length ≤ _; omega)).mono ?_; rintro e w72 ⟨rfl, g72⟩))
        clear yp00 yp01 yp02 yx0 yx1 yx2
        have q : Grow w6 w72 := (by repeat (first | exact Grow.refl _ | assumption | refine Grow.alloc ?_ _ | refine Grow.drew ?_ | refine Grow.drewN ?_ _ | refine Grow.trans ?_ (by assumption) | refine Grow.below ?_ (by assumption) (by first | exact Nat.le_refl _ | omega)))
        have zw72 := q.le
        replace yp0 := yp0.grow q
        replace yq0 := yq0.grow q
        replace yw := yw.grow q
        replace yx := yx.grow q
        replace yy := yy.grow q
        replace yg := yg.grow q
        replace hS := hS.grow q
        replace hT := hT.grow q
        replace o2 := o2.grow q
        replace o3 := o3.grow q
        replace o4 := o4.grow q
        replace o5 := o5.grow q
        replace G := G.trans q
        clear q g71 g72 o71
        go_wp2_with fail
        obtain ⟨yq00, yq01, _, _⟩ := yq0.facts
        have yq02 := yq0.lt
        obtain ⟨yy0, yy1, _, _⟩ := yy.facts
        have yy2 := yy.lt
        go_region_held3 (fun W => W.cell? ⟨w.heap.size + 1, 0, none⟩ = some (.slice A9 v9.length c9) ∧ W.cell? ⟨w.heap.size + 1, 1, none⟩ = some (.slice B9 h9.length d9) ∧ W.cell? ⟨w4.heap.size, 0, none⟩ = some (.slice A4 v9.length c4) ∧ W.cell? ⟨w4.heap.size, 1, none⟩ = some (.slice B4 h9.length d4))
          (first | go_keep | (go_split_ands; exact ⟨g82.cell (by assumption), g82.cell (by assumption), g82.cell (by assumption), g82.cell (by assumption)⟩) | (go_split_ands; exact ⟨g81.cell (by assumption), g81.cell (by assumption), g81.cell (by assumption), g81.cell (by assumption)⟩))
          (first
            | (go_at_call 14; (with_reducible refine (toState_c A9 B9 c9 d9 ⟨v9, h9⟩ _ (hT.grow (by repeat (first | exact Grow.refl _ | assumption | refine Grow.alloc ?_ _ | refine Grow.drew ?_ | refine Grow.drewN ?_ _ | refine Grow.trans ?_ (by assumption) | refine Grow.below ?_ (by assumption) (by first | exact Nat.le_refl _ | omega)))) h3 h4).mono ?_); rintro e w81 ⟨A81, B81, c81, d81, rfl, o81, g81⟩)
            | (go_at_call 18; refine (eqState_c A4 B4 A81 B81 c4 d4 c81 d81 ⟨v9, h9⟩ ⟨v9, h9⟩ _ (o4.st.grow (by repeat (first | exact Grow.refl _ | assumption | refine Grow.alloc ?_ _ | refine Grow.drew ?_ | refine Grow.drewN ?_ _ | refine Grow.trans ?_ (by assumption) | refine Grow.below ?_ (by assumption) (by first | exact Nat.le_refl _ | omega)))) (o81.st.grow (by repeat (first | exact Grow.refl _ | assumption | refine Grow.alloc ?_ _ | refine Grow.drew ?_ | refine Grow.drewN ?_ _ | refine Grow.trans ?_ (by assumption) | refine Grow.below ?_ (by assumption) (by first | exact Nat.le_refl _ | omega)))) (by show v9.length ≤ _; omega) (by show h9.length ≤ _; omega) (by show v9.length ≤ _; omega) (by show h9.length ≤ _; omega)).mono ?_; rintro e w82 ⟨rfl, g82⟩))
        clear yq00 yq01 yq02 yy0 yy1 yy2
        have q : Grow w72 w82 := (by repeat (first | exact Grow.refl _ | assumption | refine Grow.alloc ?_ _ | refine Grow.drew ?_ | refine Grow.drewN ?_ _ | refine Grow.trans ?_ (by assumption) | refine Grow.below ?_ (by assumption) (by first | exact Nat.le_refl _ | omega)))
        have zw82 := q.le
        replace yp0 := yp0.grow q
        replace yq0 := yq0.grow q
        replace yw := yw.grow q
        replace yx := yx.grow q
        replace yy := yy.grow q
        replace yg := yg.grow q
        replace hS := hS.grow q
        replace hT := hT.grow q
        replace o2 := o2.grow q
        replace o3 := o3.grow q
        replace o4 := o4.grow q
        replace o5 := o5.grow q
        replace G := G.trans q
        clear q g81 g82 o81
        obtain ⟨yx0, yx1, _, _⟩ := yx.facts
        have yx2 := yx.lt
        go_wp2_with fail
        refine (markState_m A3 B3 c3 d3 _ ⟨v, h⟩ 1 _ o3 (by show v.length ≤ _; omega) (by show h.length ≤ _; omega) (by omega)).mono ?_
        rintro e w9 ⟨rfl, _, mw9⟩
        clear yx0 yx1 yx2
        have zw9 := mw9.size
        replace yp0 := mw9.box yp0 b3 b3h (by omega) (by omega)
        replace yq0 := mw9.box yq0 b3 b3h (by omega) (by omega)
        replace yw := mw9.box yw b3 b3h (by omega) (by omega)
        replace yx := mw9.box yx b3 b3h (by omega) (by omega)
        replace yy := mw9.box yy b3 b3h (by omega) (by omega)
        replace yg := mw9.box yg b3 b3h (by omega) (by omega)
        replace o2 := mw9.ost o2 b2 b2h b3 b3h (by omega) (by omega)
        replace o4 := mw9.ost o4 b4 b4h b3 b3h (by omega) (by omega)
        replace o5 := mw9.ost o5 b5 b5h b3 b3h (by omega) (by omega)
        replace hS : Sts w9 A B ⟨v, h⟩ := hS0.grow (mw9.grow G b3 b3h (by omega) (by omega))
        replace hT : Sts w9 A9 B9 ⟨v9, h9⟩ := hT0.grow (mw9.grow G b3 b3h (by omega) (by omega))
        replace G := mw9.grow G b3 b3h (by omega) (by omega)
        clear mw9
        obtain ⟨yy0, yy1, _, _⟩ := yy.facts
        have yy2 := yy.lt
        go_wp2_with fail
        refine (markState_m A4 B4 c4 d4 _ ⟨v9, h9⟩ (1 + v.length + h.length) _ o4 (by show v9.length ≤ _; omega) (by show h9.length ≤ _; omega) (by omega)).mono ?_
        rintro e w10 ⟨rfl, _, mw10⟩
        clear yy0 yy1 yy2
        have zw10 := mw10.size
        replace yp0 := mw10.box yp0 b4 b4h (by omega) (by omega)
        replace yq0 := mw10.box yq0 b4 b4h (by omega) (by omega)
        replace yw := mw10.box yw b4 b4h (by omega) (by omega)
        replace yx := mw10.box yx b4 b4h (by omega) (by omega)
        replace yy := mw10.box yy b4 b4h (by omega) (by omega)
        replace yg := mw10.box yg b4 b4h (by omega) (by omega)
        replace o2 := mw10.ost o2 b2 b2h b4 b4h (by omega) (by omega)
        replace o5 := mw10.ost o5 b5 b5h b4 b4h (by omega) (by omega)
        replace hS : Sts w10 A B ⟨v, h⟩ := hS0.grow (mw10.grow G b4 b4h (by omega) (by omega))
        replace hT : Sts w10 A9 B9 ⟨v9, h9⟩ := hT0.grow (mw10.grow G b4 b4h (by omega) (by omega))
        replace G := mw10.grow G b4 b4h (by omega) (by omega)
        clear mw10
        obtain ⟨yg0, yg1, _, _⟩ := yg.facts
        have yg2 := yg.lt
        obtain ⟨yw0, yw1, _, _⟩ := yw.facts
        have yw2 := yw.lt
        go_wp2_with fail
        refine (eqState_c A5 B5 A23 B23 c5 d5 c23 d23 ⟨rv, rh⟩ ⟨rv, rh⟩ _ (o5.st.grow (by repeat (first | exact Grow.refl _ | assumption | refine Grow.alloc ?_ _ | refine Grow.drew ?_ | refine Grow.drewN ?_ _ | refine Grow.trans ?_ (by assumption) | refine Grow.below ?_ (by assumption) (by first | exact Nat.le_refl _ | omega)))) (o2.st.grow (by repeat (first | exact Grow.refl _ | assumption | refine Grow.alloc ?_ _ | refine Grow.drew ?_ | refine Grow.drewN ?_ _ | refine Grow.trans ?_ (by assumption) | refine Grow.below ?_ (by assumption) (by first | exact Nat.le_refl _ | omega)))) (by show rv.length ≤ _; omega) (by show rh.length ≤ _; omega) (by show rv.length ≤ _; omega) (by show rh.length ≤ _; omega)).mono ?_
        rintro e w11 ⟨rfl, g11⟩
        clear yg0 yg1 yg2 yw0 yw1 yw2
        have q : Grow w10 w11 := (by repeat (first | exact Grow.refl _ | assumption | refine Grow.alloc ?_ _ | refine Grow.drew ?_ | refine Grow.drewN ?_ _ | refine Grow.trans ?_ (by assumption) | refine Grow.below ?_ (by assumption) (by first | exact Nat.le_refl _ | omega)))
        have zw11 := q.le
        replace yp0 := yp0.grow q
        replace yq0 := yq0.grow q
        replace yw := yw.grow q
        replace yx := yx.grow q
        replace yy := yy.grow q
        replace yg := yg.grow q
        replace hS := hS.grow q
        replace hT := hT.grow q
        replace o2 := o2.grow q
        replace o5 := o5.grow q
        replace G := G.trans q
        clear q g11
        obtain ⟨yg0, yg1, _, _⟩ := yg.facts
        have yg2 := yg.lt
        go_wp2_with fail
        refine (markState_m A5 B5 c5 d5 _ ⟨rv, rh⟩ 1 _ o5 (by show rv.length ≤ _; omega) (by show rh.length ≤ _; omega) (by omega)).mono ?_
        rintro e w12 ⟨rfl, ⟨k4, k5⟩, mw12⟩
        clear yg0 yg1 yg2
        have zw12 := mw12.size
        replace yp0 := mw12.box yp0 b5 b5h (by omega) (by omega)
        replace yq0 := mw12.box yq0 b5 b5h (by omega) (by omega)
        replace yw := mw12.box yw b5 b5h (by omega) (by omega)
        replace yx := mw12.box yx b5 b5h (by omega) (by omega)
        replace yy := mw12.box yy b5 b5h (by omega) (by omega)
        replace yg := mw12.box yg b5 b5h (by omega) (by omega)
        replace o2 := mw12.ost o2 b2 b2h b5 b5h (by omega) (by omega)
        replace hS : Sts w12 A B ⟨v, h⟩ := hS0.grow (mw12.grow G b5 b5h (by omega) (by omega))
        replace hT : Sts w12 A9 B9 ⟨v9, h9⟩ := hT0.grow (mw12.grow G b5 b5h (by omega) (by omega))
        replace G := mw12.grow G b5 b5h (by omega) (by omega)
        clear mw12
        replace k4 : Ints w12 A5 (markI 1 rv.length) := k4
        replace k5 : Ints w12 B5 (markI (1 + rv.length) rh.length) := k5
        obtain ⟨yg0, yg1, _, _⟩ := yg.facts
        have yg2 := yg.lt
        go_wp2_with fail
        refine (heldState_c A5 B5 c5 d5 1 rv.length rh.length _ (k4.grow (by repeat (first | exact Grow.refl _ | assumption | refine Grow.alloc ?_ _ | refine Grow.drew ?_ | refine Grow.drewN ?_ _ | refine Grow.trans ?_ (by assumption) | refine Grow.below ?_ (by assumption) (by first | exact Nat.le_refl _ | omega)))) (k5.grow (by repeat (first | exact Grow.refl _ | assumption | refine Grow.alloc ?_ _ | refine Grow.drew ?_ | refine Grow.drewN ?_ _ | refine Grow.trans ?_ (by assumption) | refine Grow.below ?_ (by assumption) (by first | exact Nat.le_refl _ | omega)))) (by omega) (by omega) (by omega)).mono ?_
        rintro e w13 ⟨rfl, g13⟩
        clear yg0 yg1 yg2
        have q : Grow w12 w13 := (by repeat (first | exact Grow.refl _ | assumption | refine Grow.alloc ?_ _ | refine Grow.drew ?_ | refine Grow.drewN ?_ _ | refine Grow.trans ?_ (by assumption) | refine Grow.below ?_ (by assumption) (by first | exact Nat.le_refl _ | omega)))
        have zw13 := q.le
        replace yp0 := yp0.grow q
        replace yq0 := yq0.grow q
        replace yw := yw.grow q
        replace yx := yx.grow q
        replace yy := yy.grow q
        replace yg := yg.grow q
        replace hS := hS.grow q
        replace hT := hT.grow q
        replace o2 := o2.grow q
        replace k4 := k4.grow q
        replace k5 := k5.grow q
        replace G := G.trans q
        clear q g13
        obtain ⟨yp00, yp01, _, _⟩ := yp0.facts
        have yp02 := yp0.lt
        obtain ⟨yq00, yq01, _, _⟩ := yq0.facts
        have yq02 := yq0.lt
        have l0 := yp0.lt
        have l1 := yq0.lt
        go_wp2_with fail
        go_cut [15, 16] (fun s1 s2 wx => ∃ g A B c d, s1 = Value.pointer (some ⟨g, 0, none⟩) ∧ s2 = Value.bool rb ∧ Box2 wx g 30 (.slice A rv.length c) (.slice B rh.length d) ∧ OSt wx w13.heap.size A B c d ⟨rv, rh⟩ ∧ Grow w13 wx)
        case first =>
          go_region_held3 (fun W => W.cell? ⟨w.heap.size, 0, none⟩ = some (.slice A v.length c) ∧ W.cell? ⟨w.heap.size, 1, none⟩ = some (.slice B h.length d) ∧ W.cell? ⟨w.heap.size + 1, 0, none⟩ = some (.slice A9 v9.length c9) ∧ W.cell? ⟨w.heap.size + 1, 1, none⟩ = some (.slice B9 h9.length d9))
            (first
              | (refine ⟨?_, ?_, ?_, ?_⟩ <;> (go_keep; done))
              | exact ⟨(Grow.alloc (Grow.refl _) _).cell s0, (Grow.alloc (Grow.refl _) _).cell s1, (Grow.alloc (Grow.refl _) _).cell s2, (Grow.alloc (Grow.refl _) _).cell s3⟩
              | exact ⟨cellFar2 (by omega) s0, cellFar2 (by omega) s1, cellFar2 (by omega) s2, cellFar2 (by omega) s3⟩
              | (go_split_ands; exact ⟨g33.cell (by assumption), g33.cell (by assumption), g33.cell (by assumption), g33.cell (by assumption)⟩)
              | (go_split_ands; exact ⟨g32.cell (by assumption), g32.cell (by assumption), g32.cell (by assumption), g32.cell (by assumption)⟩)
              | (go_split_ands; exact ⟨g31.cell (by assumption), g31.cell (by assumption), g31.cell (by assumption), g31.cell (by assumption)⟩)
              | fail)
            (first
              | (go_at_call 14; (with_reducible refine (toState_c A B c d ⟨v, h⟩ _ (hS.grow (by repeat (first | exact Grow.refl _ | assumption | refine Grow.alloc ?_ _ | refine Grow.drew ?_ | refine Grow.drewN ?_ _ | refine Grow.trans ?_ (by assumption) | refine Grow.below ?_ (by assumption) (by first | exact Nat.le_refl _ | omega)))) h1 h2).mono ?_); rintro e w31 ⟨A31, B31, c31, d31, rfl, o31, g31⟩)
              | (go_at_call 14; (with_reducible refine (toState_c A9 B9 c9 d9 ⟨v9, h9⟩ _ (hT.grow (by repeat (first | exact Grow.refl _ | assumption | refine Grow.alloc ?_ _ | refine Grow.drew ?_ | refine Grow.drewN ?_ _ | refine Grow.trans ?_ (by assumption) | refine Grow.below ?_ (by assumption) (by first | exact Nat.le_refl _ | omega)))) h3 h4).mono ?_); rintro e w32 ⟨A32, B32, c32, d32, rfl, o32, g32⟩)
              | (go_at_call 29; refine (CI.out A31 B31 c31 d31 A32 B32 c32 d32 _ (o31.st.grow (by repeat (first | exact Grow.refl _ | assumption | refine Grow.alloc ?_ _ | refine Grow.drew ?_ | refine Grow.drewN ?_ _ | refine Grow.trans ?_ (by assumption) | refine Grow.below ?_ (by assumption) (by first | exact Nat.le_refl _ | omega)))) (o32.st.grow (by repeat (first | exact Grow.refl _ | assumption | refine Grow.alloc ?_ _ | refine Grow.drew ?_ | refine Grow.drewN ?_ _ | refine Grow.trans ?_ (by assumption) | refine Grow.below ?_ (by assumption) (by first | exact Nat.le_refl _ | omega))))).mono ?_; rintro e w33 ⟨A33, B33, c33, d33, rfl, o33, g33⟩; obtain ⟨s0, s1, s2, s3⟩ : w33.cell? ⟨w.heap.size, 0, none⟩ = some (.slice A v.length c) ∧ w33.cell? ⟨w.heap.size, 1, none⟩ = some (.slice B h.length d) ∧ w33.cell? ⟨w.heap.size + 1, 0, none⟩ = some (.slice A9 v9.length c9) ∧ w33.cell? ⟨w.heap.size + 1, 1, none⟩ = some (.slice B9 h9.length d9) := (by go_split_ands; exact ⟨g33.cell (by assumption), g33.cell (by assumption), g33.cell (by assumption), g33.cell (by assumption)⟩); have z31 := g31.le; have z32 := g32.le; have z33 := g33.le; (try simp only [World.size_alloc, World.size_drew] at z31 z32 z33); (first | (have yb : Box2 w33 w32.heap.size 30 (.slice none 0 0) (.slice none 0 0) := g33.heap (heap_alloc_new w32 _)) | (have yb : Box2 w33 w31.heap.size 30 (.slice none 0 0) (.slice none 0 0) := g33.heap (g32.heap (heap_alloc_new w31 _))) | (have yb : Box2 w33 w13.heap.size 30 (.slice none 0 0) (.slice none 0 0) := g33.heap (g32.heap (g31.heap (heap_alloc_new w13 _)))) | skip); try (obtain ⟨j0, j1, e0, e1⟩ := yb.facts)))
          all_goals
            have bb := o33.bdv
            have bbh := o33.bdh
            (try simp only [World.size_alloc, World.size_drew] at bb bbh)
            clear yp00 yp01 yp02 yq00 yq01 yq02 s0 s1 s2 s3
          · have o34 : OSt (w33.alloc (.cells #[.slice A33 rv.length c33, .slice B33 rh.length d33] 30)) w13.heap.size A33 B33 c33 d33 ⟨rv, rh⟩ := (o33.grow (Grow.alloc (Grow.refl _) _)).lo (by (try simp only [World.size_alloc, World.size_drew]); omega)
            have yh := Box2.new w33 30 (.slice A33 rv.length c33) (.slice B33 rh.length d33)
            have q : Grow w13 (w33.alloc (.cells #[.slice A33 rv.length c33, .slice B33 rh.length d33] 30)) := (by repeat (first | exact Grow.refl _ | assumption | refine Grow.alloc ?_ _ | refine Grow.drew ?_ | refine Grow.drewN ?_ _ | refine Grow.trans ?_ (by assumption) | refine Grow.below ?_ (by assumption) (by first | exact Nat.le_refl _ | omega)))
            clear g31 g32 g33 o31 o32 o33
            go_wp2_with fail
            go_meet
            case rel => exact ⟨_, _, _, _, _, rfl, rfl, yh, o34, q⟩
          · have o34 : OSt ((w33.setCell ⟨w32.heap.size, 0, none⟩ (.slice A33 rv.length c33)).setCell ⟨w32.heap.size, 1, none⟩ (.slice B33 rh.length d33)) w13.heap.size A33 B33 c33 d33 ⟨rv, rh⟩ := ((o33.far (by show w32.heap.size < _; (try simp only [World.size_alloc, World.size_drew]); omega) _).far (by show w32.heap.size < _; (try simp only [World.size_alloc, World.size_drew]); omega) _).lo (by (try simp only [World.size_alloc, World.size_drew]); omega)
            have yh := (yb.set0 (.slice A33 rv.length c33)).set1 (.slice B33 rh.length d33)
            have q : Grow w13 ((w33.setCell ⟨w32.heap.size, 0, none⟩ (.slice A33 rv.length c33)).setCell ⟨w32.heap.size, 1, none⟩ (.slice B33 rh.length d33)) := Grow.setCell (Grow.setCell (by repeat (first | exact Grow.refl _ | assumption | refine Grow.alloc ?_ _ | refine Grow.drew ?_ | refine Grow.drewN ?_ _ | refine Grow.trans ?_ (by assumption) | refine Grow.below ?_ (by assumption) (by first | exact Nat.le_refl _ | omega))) (by show w13.heap.size ≤ w32.heap.size; omega) _) (by show w13.heap.size ≤ w32.heap.size; omega) _
            clear j0 j1 e0 e1 yb
            clear g31 g32 g33 o31 o32 o33
            go_wp2_with fail
            go_meet
            case rel => exact ⟨_, _, _, _, _, rfl, rfl, yh, o34, q⟩
          · have o34 : OSt ((w33.setCell ⟨w31.heap.size, 0, none⟩ (.slice A33 rv.length c33)).setCell ⟨w31.heap.size, 1, none⟩ (.slice B33 rh.length d33)) w13.heap.size A33 B33 c33 d33 ⟨rv, rh⟩ := ((o33.far (by show w31.heap.size < _; (try simp only [World.size_alloc, World.size_drew]); omega) _).far (by show w31.heap.size < _; (try simp only [World.size_alloc, World.size_drew]); omega) _).lo (by (try simp only [World.size_alloc, World.size_drew]); omega)
            have yh := (yb.set0 (.slice A33 rv.length c33)).set1 (.slice B33 rh.length d33)
            have q : Grow w13 ((w33.setCell ⟨w31.heap.size, 0, none⟩ (.slice A33 rv.length c33)).setCell ⟨w31.heap.size, 1, none⟩ (.slice B33 rh.length d33)) := Grow.setCell (Grow.setCell (by repeat (first | exact Grow.refl _ | assumption | refine Grow.alloc ?_ _ | refine Grow.drew ?_ | refine Grow.drewN ?_ _ | refine Grow.trans ?_ (by assumption) | refine Grow.below ?_ (by assumption) (by first | exact Nat.le_refl _ | omega))) (by show w13.heap.size ≤ w31.heap.size; omega) _) (by show w13.heap.size ≤ w31.heap.size; omega) _
            clear j0 j1 e0 e1 yb
            clear g31 g32 g33 o31 o32 o33
            go_wp2_with fail
            go_meet
            case rel => exact ⟨_, _, _, _, _, rfl, rfl, yh, o34, q⟩
          · have o34 : OSt ((w33.setCell ⟨w13.heap.size, 0, none⟩ (.slice A33 rv.length c33)).setCell ⟨w13.heap.size, 1, none⟩ (.slice B33 rh.length d33)) w13.heap.size A33 B33 c33 d33 ⟨rv, rh⟩ := ((o33.far (by show w13.heap.size < _; (try simp only [World.size_alloc, World.size_drew]); omega) _).far (by show w13.heap.size < _; (try simp only [World.size_alloc, World.size_drew]); omega) _).lo (by (try simp only [World.size_alloc, World.size_drew]); omega)
            have yh := (yb.set0 (.slice A33 rv.length c33)).set1 (.slice B33 rh.length d33)
            have q : Grow w13 ((w33.setCell ⟨w13.heap.size, 0, none⟩ (.slice A33 rv.length c33)).setCell ⟨w13.heap.size, 1, none⟩ (.slice B33 rh.length d33)) := Grow.setCell (Grow.setCell (by repeat (first | exact Grow.refl _ | assumption | refine Grow.alloc ?_ _ | refine Grow.drew ?_ | refine Grow.drewN ?_ _ | refine Grow.trans ?_ (by assumption) | refine Grow.below ?_ (by assumption) (by first | exact Nat.le_refl _ | omega))) (by show w13.heap.size ≤ w13.heap.size; omega) _) (by show w13.heap.size ≤ w13.heap.size; omega) _
            clear j0 j1 e0 e1 yb
            clear g31 g32 g33 o31 o32 o33
            go_wp2_with fail
            go_meet
            case rel => exact ⟨_, _, _, _, _, rfl, rfl, yh, o34, q⟩
        case rest =>
          obtain ⟨gyh, A33, B33, c33, d33, rfl, rfl, yh, o34, q⟩ := hcut
          obtain ⟨w30, rfl⟩ : ∃ w30 : World, w30 = wc := ⟨_, rfl⟩
          have zb3 := yh.lt
          replace yp0 := yp0.grow q
          replace yq0 := yq0.grow q
          replace yw := yw.grow q
          replace yx := yx.grow q
          replace yy := yy.grow q
          replace yg := yg.grow q
          replace hS := hS.grow q
          replace hT := hT.grow q
          replace o2 := o2.grow q
          replace k4 := k4.grow q
          replace k5 := k5.grow q
          replace G := G.trans q
          have hzz3 := q.le
          clear q l0 l1
          clear yp00 yp01 yp02 yq00 yq01 yq02
          have b34 := o34.bdv
          have b34h := o34.bdh
          obtain ⟨yh0, yh1, _, _⟩ := yh.facts
          have yh2 := yh.lt
          obtain ⟨yw0, yw1, _, _⟩ := yw.facts
          have yw2 := yw.lt
          go_wp2_with fail
          refine (eqState_c A33 B33 A23 B23 c33 d33 c23 d23 ⟨rv, rh⟩ ⟨rv, rh⟩ _ (o34.st.grow (by repeat (first | exact Grow.refl _ | assumption | refine Grow.alloc ?_ _ | refine Grow.drew ?_ | refine Grow.drewN ?_ _ | refine Grow.trans ?_ (by assumption) | refine Grow.below ?_ (by assumption) (by first | exact Nat.le_refl _ | omega)))) (o2.st.grow (by repeat (first | exact Grow.refl _ | assumption | refine Grow.alloc ?_ _ | refine Grow.drew ?_ | refine Grow.drewN ?_ _ | refine Grow.trans ?_ (by assumption) | refine Grow.below ?_ (by assumption) (by first | exact Nat.le_refl _ | omega)))) (by show rv.length ≤ _; omega) (by show rh.length ≤ _; omega) (by show rv.length ≤ _; omega) (by show rh.length ≤ _; omega)).mono ?_
          rintro e w14 ⟨rfl, g14⟩
          clear yh0 yh1 yh2 yw0 yw1 yw2
          have q : Grow w30 w14 := (by repeat (first | exact Grow.refl _ | assumption | refine Grow.alloc ?_ _ | refine Grow.drew ?_ | refine Grow.drewN ?_ _ | refine Grow.trans ?_ (by assumption) | refine Grow.below ?_ (by assumption) (by first | exact Nat.le_refl _ | omega)))
          have zw14 := q.le
          replace yp0 := yp0.grow q
          replace yq0 := yq0.grow q
          replace yw := yw.grow q
          replace yx := yx.grow q
          replace yy := yy.grow q
          replace yg := yg.grow q
          replace yh := yh.grow q
          replace hS := hS.grow q
          replace hT := hT.grow q
          replace o2 := o2.grow q
          replace k4 := k4.grow q
          replace k5 := k5.grow q
          replace o34 := o34.grow q
          replace G := G.trans q
          clear q g14
          obtain ⟨yg0, yg1, _, _⟩ := yg.facts
          have yg2 := yg.lt
          go_wp2_with fail
          refine (heldState_c A5 B5 c5 d5 1 rv.length rh.length _ (k4.grow (by repeat (first | exact Grow.refl _ | assumption | refine Grow.alloc ?_ _ | refine Grow.drew ?_ | refine Grow.drewN ?_ _ | refine Grow.trans ?_ (by assumption) | refine Grow.below ?_ (by assumption) (by first | exact Nat.le_refl _ | omega)))) (k5.grow (by repeat (first | exact Grow.refl _ | assumption | refine Grow.alloc ?_ _ | refine Grow.drew ?_ | refine Grow.drewN ?_ _ | refine Grow.trans ?_ (by assumption) | refine Grow.below ?_ (by assumption) (by first | exact Nat.le_refl _ | omega)))) (by omega) (by omega) (by omega)).mono ?_
          rintro e w15 ⟨rfl, g15⟩
          clear yg0 yg1 yg2
          have q : Grow w14 w15 := (by repeat (first | exact Grow.refl _ | assumption | refine Grow.alloc ?_ _ | refine Grow.drew ?_ | refine Grow.drewN ?_ _ | refine Grow.trans ?_ (by assumption) | refine Grow.below ?_ (by assumption) (by first | exact Nat.le_refl _ | omega)))
          have zw15 := q.le
          replace yp0 := yp0.grow q
          replace yq0 := yq0.grow q
          replace yw := yw.grow q
          replace yx := yx.grow q
          replace yy := yy.grow q
          replace yg := yg.grow q
          replace yh := yh.grow q
          replace hS := hS.grow q
          replace hT := hT.grow q
          replace o2 := o2.grow q
          replace k4 := k4.grow q
          replace k5 := k5.grow q
          replace o34 := o34.grow q
          replace G := G.trans q
          clear q g15
          go_wp2_with fail
          go_ret
          exact ⟨rfl, G⟩
    · have hs9 := Lib.hid (show szv2 v9.length h9.length (1048576 - v.length - h.length : Int) = -1 by unfold szv2; rw [if_pos (by omega)])
      obtain ⟨k0, k1, _, _⟩ := yq0.facts
      go_wp2_with fail
      refine (szState_c A9 B9 v9.length h9.length c9 d9 (1048576 - v.length - h.length) _ hn9 hm9 (by omega) (by omega)).mono ?_
      rintro e w1 ⟨rfl, g1⟩
      rw [hs9.out]
      go_wp2_with fail
      go_ret
      exact ⟨rfl, G.trans g1⟩
  · have hs := Lib.hid (show szv2 v.length h.length 1048576 = -1 by unfold szv2; rw [if_pos (by omega)])
    go_enter Try.func6, Try.ntmps6
    go_wp2_with fail
    refine (szState_c A B v.length h.length c d 1048576 _ hn hm (by omega) (by omega)).mono ?_
    rintro e w0 ⟨rfl, g0⟩
    rw [hs.out]
    go_wp2_with fail
    go_ret
    exact ⟨rfl, (by repeat (first | exact Grow.refl _ | assumption | refine Grow.alloc ?_ _ | refine Grow.drew ?_ | refine Grow.drewN ?_ _ | refine Grow.trans ?_ (by assumption) | refine Grow.below ?_ (by assumption) (by first | exact Nat.le_refl _ | omega)))⟩

set_option maxRecDepth 100000 in
theorem lifted (os : Os) (started : os.Started) (H : Type) (enc : TypeId × Value → H) :
    ReturnsInHanded {} Try.checked os 6 .any (Rows.fnExactJoinStatesSpec.pre6 enc Try.prog Try.f6 Rows.fnExactJoinStatesRow.domain false) (Rows.fnExactJoinStatesSpec.post enc Try.prog Try.f6 false true false false) := by
  refine returnsInHanded_of_change (C := Try.checked) own_knob started (by kernel_rfl) Try.func6
    (ChangeSpec.witness6 (enc := enc) (C := Try.checked) false ⟨#[], #[.agg #[.slice none 0 0, .slice none 0 0], .agg #[.slice none 0 0, .slice none 0 0]], []⟩ 8 (by kernel_rfl) (by kernel_rfl) (by kernel_rfl) (by kernel_rfl)) ?_
  intro W base args ds gs before hval0 hW hcnd _
  have hval : ∀ (j : Nat) t v, Try.f6.params[j]? = some t → args[j]? = some v → Value.okWide Try.prog W .any base t v := hval0
  have hW' := hW
  obtain ⟨p, q, hA0, hV, rfl, hfz, hnd⟩ := hW
  have hA : DataW.TrodAll enc Try.prog W 0 (fun _ => true) true Try.f6.params.toList args.toList ds p := hA0
  rw [Try.params6] at hA hval
  obtain ⟨v0, vs0, d0, ds0, p0, q0, hargs, rfl, rfl, h0, r0⟩ := trodAll_cons hA
  obtain ⟨v1, vs1, d1, ds1, p1, q1, rfl, rfl, rfl, h1, r1⟩ := trodAll_cons r0
  obtain ⟨rfl, rfl, rfl⟩ := trodAll_nil r1
  obtain rfl : args = #[v0, v1] := by cases args; simp_all
  obtain ⟨rfl, rfl⟩ := trodVars_none hV
  have k0 := h0
  have lt0 : ∀ x ∈ p0, x.block < W.heap.size := by obtain ⟨m, hm⟩ := k0; exact DataW.trod_lt m _ _ _ hm
  obtain ⟨a0, b0, c0, d0, l0, m0, rfl, w0, y0, hb0, hc0⟩ := open_stateV (hval 0 24 v0 rfl rfl) h0
  have k1 := h1
  have lt1 : ∀ x ∈ p1, x.block < W.heap.size := by obtain ⟨m, hm⟩ := k1; exact DataW.trod_lt m _ _ _ hm
  obtain ⟨a1, b1, c1, d1, l1, m1, rfl, w1, y1, hb1, hc1⟩ := open_stateV (hval 1 24 v1 rfl rfl) h1
  clear hA0 hval0
  refine (walk a0 c0 l0 b0 d0 m0 a1 c1 l1 b1 d1 m1 W w0 y0 hb0 hc0 w1 y1 hb1 hc1).mono fun e W' ⟨he, bel⟩ => ?_
  subst he
  exact ⟨_, rfl, _, _, _, [], _, [], hW', trodAll_mk1 (shut_bool Try.underlying4 _), (trodAll_cons_mk (Below.trod laid_out (by kernel_rfl) (of_decide_eq_true (by kernel_rfl)) k0 bel lt0) (trodAll_cons_mk (Below.trod laid_out (by kernel_rfl) (of_decide_eq_true (by kernel_rfl)) k1 bel lt1) trodAll_mk0)), rfl, bel.frame _, fun h => by cases h⟩

theorem over : Rows.fnExactJoinStatesRow.holds Try.pinned (OpenSpec.ofChange Rows.fnExactJoinStatesSpec) :=
  OpenClaim.holds_of_wide 6 Try.f6 rfl rfl rfl rfl rfl rfl rfl ⟨rfl, rfl, rfl, rfl, rfl⟩ rfl rfl rfl rfl rfl (by kernel_rfl) Try.func6 (by kernel_rfl)
    (of_decide_eq_true (by kernel_rfl)) (by unfold Func.isWrapper; first | (rw [if_pos (by decide +kernel)]; kernel_rfl) | (rw [if_neg (by decide +kernel)]; exact ⟨rfl, rfl⟩))
    (fun os started H enc _ => lifted os started H enc)

/-- The statement. -/
theorem proved : Rows.FnExactJoinStatesSaid := over
#print axioms proved

end Go.Proofs.Ytcipmmieiafpbaa.lawFnExactJoinStates
