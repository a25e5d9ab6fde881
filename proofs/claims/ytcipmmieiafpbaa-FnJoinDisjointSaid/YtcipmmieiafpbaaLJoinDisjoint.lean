/- FnJoinDisjoint: two states join exactly if they have equal values and no common cells. No conditions. -/
import Derived.Test.YtcipmmieiafpbaaPlainDisj
import Derived.Test.YtcipmmieiafpbaaJn
import Derived.Test.YtcipmmieiafpbaaJn3
import Derived.Test.YtcipmmieiafpbaaDrawJ
import Derived.Test.YtcipmmieiafpbaaRowAid
namespace Go.Proofs.Ytcipmmieiafpbaa.lawFnJoinDisjoint
open Go.ChangeShapes Go.WideShapes Go.ChangeAt Go.RowKit Go.Joins Go.Deep
open Go.ChangeMaps (open_string shut_string)
set_option linter.unusedVariables false


set_option maxRecDepth 100000 in
set_option maxHeartbeats 6400000 in
theorem walk (A : Option Addr) (c n : Nat) (w : World) (hA : Bytes w A n) (hn : n ≤ 9223372036854775807) (hnc : n ≤ c) :
    Calls Try.prog 10 #[.slice A n c] w fun e w' => e = .returned (.bool true) ∧ Grow w w' := by
  by_cases hn20 : (1048576 : Int) < (n : Int)
  · go_enter Try.func10, Try.ntmps10
    go_wp2
    go_ret
    exact ⟨rfl, (by repeat (first | exact Grow.refl _ | assumption | refine Grow.alloc ?_ _ | refine Grow.drew ?_ | refine Grow.drewN ?_ _ | refine Grow.trans ?_ (by assumption) | refine Grow.below ?_ (by assumption) (by first | exact Nat.le_refl _ | omega)))⟩
  go_enter Try.func10, Try.ntmps10
  go_wp2_with fail
  refine (DrawJoinStates_c A n c _ hA hn hnc).mono ?_
  rintro e w1 ⟨A1, B1, c1, d1, v, h, A9, B9, c9, d9, v9, h9, rfl, S, T, ⟨hv, hh⟩, ⟨hv9, hh9⟩, g1⟩
  have y1 := (Box2.new w1 30 (.slice A1 v.length c1) (.slice B1 h.length d1)).grow (show Grow _ ((w1.alloc (.cells #[.slice A1 v.length c1, .slice B1 h.length d1] 30)).alloc (.cells #[.slice A9 v9.length c9, .slice B9 h9.length d9] 30)) from Grow.alloc (Grow.refl _) _)
  have y2 := Box2.new (w1.alloc (.cells #[.slice A1 v.length c1, .slice B1 h.length d1] 30)) 30 (.slice A9 v9.length c9) (.slice B9 h9.length d9)
  simp only [World.size_alloc] at y2
  have G : Grow w ((w1.alloc (.cells #[.slice A1 v.length c1, .slice B1 h.length d1] 30)).alloc (.cells #[.slice A9 v9.length c9, .slice B9 h9.length d9] 30)) := (by repeat (first | exact Grow.refl _ | assumption | refine Grow.alloc ?_ _ | refine Grow.drew ?_ | refine Grow.drewN ?_ _ | refine Grow.trans ?_ (by assumption) | refine Grow.below ?_ (by assumption) (by first | exact Nat.le_refl _ | omega)))
  replace S := S.grow (show Grow w1 ((w1.alloc (.cells #[.slice A1 v.length c1, .slice B1 h.length d1] 30)).alloc (.cells #[.slice A9 v9.length c9, .slice B9 h9.length d9] 30)) from (by repeat (first | exact Grow.refl _ | assumption | refine Grow.alloc ?_ _ | refine Grow.drew ?_ | refine Grow.drewN ?_ _ | refine Grow.trans ?_ (by assumption) | refine Grow.below ?_ (by assumption) (by first | exact Nat.le_refl _ | omega))))
  replace T := T.grow (show Grow w1 ((w1.alloc (.cells #[.slice A1 v.length c1, .slice B1 h.length d1] 30)).alloc (.cells #[.slice A9 v9.length c9, .slice B9 h9.length d9] 30)) from (by repeat (first | exact Grow.refl _ | assumption | refine Grow.alloc ?_ _ | refine Grow.drew ?_ | refine Grow.drewN ?_ _ | refine Grow.trans ?_ (by assumption) | refine Grow.below ?_ (by assumption) (by first | exact Nat.le_refl _ | omega))))
  clear g1
  obtain ⟨xv, xh, xb, hx⟩ : ∃ xv xh xb, Pl.joinS ⟨v, h⟩ ⟨v9, h9⟩ = (⟨xv, xh⟩, xb) := ⟨_, _, _, rfl⟩
  have hl := Pl.joinS_len ⟨v, h⟩ ⟨v9, h9⟩ (n := 9) hv hh
  rw [hx] at hl
  obtain ⟨l1, l2⟩ : xv.length ≤ 9 ∧ xh.length ≤ 9 := hl
  have CI := Lib.hid (show ∀ W, Sts W A1 B1 ⟨v, h⟩ → Sts W A9 B9 ⟨v9, h9⟩ → Calls Try.prog 29 #[sval A1 B1 c1 d1 ⟨v, h⟩, sval A9 B9 c9 d9 ⟨v9, h9⟩] W (RSt W (⟨xv, xh⟩, xb)) from fun W k k9 => by rw [← hx]; exact JoinStates_c A1 B1 A9 B9 c1 d1 c9 d9 ⟨v, h⟩ ⟨v9, h9⟩ W k k9 (by show v.length ≤ _; omega) (by show h.length ≤ _; omega) (by show v9.length ≤ _; omega) (by show h9.length ≤ _; omega))
  have CS := Lib.hid (show ∀ W, Sts W A1 B1 ⟨v, h⟩ → Sts W A9 B9 ⟨v9, h9⟩ → Calls Try.prog 28 #[sval A1 B1 c1 d1 ⟨v, h⟩, sval A9 B9 c9 d9 ⟨v9, h9⟩] W (RSt W (⟨xv, xh⟩, xb)) from fun W k k9 => by rw [← hx]; exact sJoinStates_c A1 B1 A9 B9 c1 d1 c9 d9 ⟨v, h⟩ ⟨v9, h9⟩ W k k9 (by show v.length ≤ _; omega) (by show h.length ≤ _; omega) (by show v9.length ≤ _; omega) (by show h9.length ≤ _; omega))
  have HX := Lib.hid hx
  have CE := Lib.hid (show ∀ (A B A' B' : Option Addr) (c d c' d' : Nat) (s : Pl.St) W, Sts W A B s → Sts W A' B' s → s.v.length ≤ 9 → s.h.length ≤ 9 → Calls Try.prog 36 #[sval A B c d s, sval A' B' c' d' s] W fun e w' => e = .returned (.bool true) ∧ Grow W w' from fun A B A' B' c d c' d' s W k k' n m => by
    have := StateSame_c A B A' B' c d c' d' s s W k k' (by omega) (by omega) (by omega) (by omega)
    rw [decide_eq_true rfl] at this; exact this)
  clear hx
  go_wp2_with fail
  generalize (w1.alloc (.cells #[.slice A1 v.length c1, .slice B1 h.length d1] 30)).alloc (.cells #[.slice A9 v9.length c9, .slice B9 h9.length d9] 30) = w2 at *
  refine (CI.out _ S T).mono ?_
  rintro e w3 ⟨A3, B3, c3, d3, rfl, o3, g3⟩
  have y3 := Box2.new w3 30 (.slice A3 xv.length c3) (.slice B3 xh.length d3)
  have q : Grow w3 (w3.alloc (.cells #[.slice A3 xv.length c3, .slice B3 xh.length d3] 30)) := (by repeat (first | exact Grow.refl _ | assumption | refine Grow.alloc ?_ _ | refine Grow.drew ?_ | refine Grow.drewN ?_ _ | refine Grow.trans ?_ (by assumption) | refine Grow.below ?_ (by assumption) (by first | exact Nat.le_refl _ | omega)))
  replace y1 := y1.grow (g3.trans q)
  replace y2 := y2.grow (g3.trans q)
  replace S := S.grow (g3.trans q)
  replace T := T.grow (g3.trans q)
  replace G := G.trans (g3.trans q)
  have X := o3.st.grow q
  clear q g3 o3
  obtain ⟨k0, k1, _, _⟩ := y1.facts
  obtain ⟨q0, q1, _, _⟩ := y2.facts
  have n1 := y1.lt
  have n2 := y2.lt
  go_wp2_with fail
  generalize w3.alloc (.cells #[.slice A3 xv.length c3, .slice B3 xh.length d3] 30) = w4 at *
  refine (CS.out _ S T).mono ?_
  rintro e w5 ⟨A5, B5, c5, d5, rfl, o5, g5⟩
  clear k0 k1 q0 q1 n1 n2
  have y5 := Box2.new w5 30 (.slice A5 xv.length c5) (.slice B5 xh.length d5)
  have q : Grow w5 (w5.alloc (.cells #[.slice A5 xv.length c5, .slice B5 xh.length d5] 30)) := (by repeat (first | exact Grow.refl _ | assumption | refine Grow.alloc ?_ _ | refine Grow.drew ?_ | refine Grow.drewN ?_ _ | refine Grow.trans ?_ (by assumption) | refine Grow.below ?_ (by assumption) (by first | exact Nat.le_refl _ | omega)))
  have q5 : Grow w4 (w5.alloc (.cells #[.slice A5 xv.length c5, .slice B5 xh.length d5] 30)) := g5.trans q
  replace y1 := y1.grow q5
  replace y2 := y2.grow q5
  replace y3 := y3.grow q5
  replace S := S.grow q5
  replace T := T.grow q5
  replace X := X.grow q5
  replace G := G.trans q5
  have Z := o5.st.grow q
  clear q q5 g5 o5
  obtain ⟨k0, k1, _, _⟩ := y3.facts
  have n3 := y3.lt
  go_wp2_with fail
  generalize w5.alloc (.cells #[.slice A5 xv.length c5, .slice B5 xh.length d5] 30) = w6 at *
  refine (CE.out A3 B3 A5 B5 c3 d3 c5 d5 ⟨xv, xh⟩ _ X Z l1 l2).mono ?_
  rintro e w7 ⟨rfl, g7⟩
  clear k0 k1 n3
  replace y1 := y1.grow g7
  replace y2 := y2.grow g7
  replace y3 := y3.grow g7
  replace S := S.grow g7
  replace T := T.grow g7
  replace X := X.grow g7
  replace G := G.trans g7
  replace Z := Z.grow g7
  replace y5 := y5.grow g7
  clear g7
  obtain ⟨k0, k1, _, _⟩ := y1.facts
  go_wp2_with fail
  refine (StateValid_c A1 B1 c1 d1 ⟨v, h⟩ _ S (by show v.length ≤ _; omega) (by show h.length ≤ _; omega)).mono ?_
  rintro e w8 ⟨rfl, g8⟩
  clear k0 k1
  replace y1 := y1.grow g8
  replace y2 := y2.grow g8
  replace y3 := y3.grow g8
  replace S := S.grow g8
  replace T := T.grow g8
  replace X := X.grow g8
  replace G := G.trans g8
  replace Z := Z.grow g8
  replace y5 := y5.grow g8
  clear g8
  cases hs : Pl.stv ⟨v, h⟩ with
  | false =>
    clear hs
    obtain ⟨k0, k1, _, _⟩ := y3.facts
    obtain ⟨q0, q1, _, _⟩ := y5.facts
    go_wp2_with fail
    refine (CE.out A3 B3 A5 B5 c3 d3 c5 d5 ⟨xv, xh⟩ _ X Z l1 l2).mono ?_
    rintro e w9 ⟨rfl, g9⟩
    go_wp2_with fail
    go_ret
    exact ⟨rfl, G.trans g9⟩
  | true =>
    have HS := Lib.hid hs
    clear hs
    obtain ⟨k0, k1, _, _⟩ := y2.facts
    go_wp2_with fail
    refine (StateValid_c A9 B9 c9 d9 ⟨v9, h9⟩ _ T (by show v9.length ≤ _; omega) (by show h9.length ≤ _; omega)).mono ?_
    rintro e w9 ⟨rfl, g9⟩
    clear k0 k1
    replace y1 := y1.grow g9
    replace y2 := y2.grow g9
    replace y3 := y3.grow g9
    replace S := S.grow g9
    replace T := T.grow g9
    replace X := X.grow g9
    replace G := G.trans g9
    replace Z := Z.grow g9
    replace y5 := y5.grow g9
    clear g9
    cases hs : Pl.stv ⟨v9, h9⟩ with
    | false =>
      clear hs
      obtain ⟨k0, k1, _, _⟩ := y3.facts
      obtain ⟨q0, q1, _, _⟩ := y5.facts
      go_wp2_with fail
      refine (CE.out A3 B3 A5 B5 c3 d3 c5 d5 ⟨xv, xh⟩ _ X Z l1 l2).mono ?_
      rintro e w10 ⟨rfl, g10⟩
      go_wp2_with fail
      go_ret
      exact ⟨rfl, G.trans g10⟩
    | true =>
      obtain ⟨hb1, hb2⟩ := Pl.join_says HX.out HS.out hs
      clear hs Z y5
      obtain ⟨us, hus⟩ : ∃ us, us = Pl.usedC ⟨v, h⟩ := ⟨_, rfl⟩
      obtain ⟨ut, hut⟩ : ∃ us, us = Pl.usedC ⟨v9, h9⟩ := ⟨_, rfl⟩
      obtain ⟨ux, hux⟩ : ∃ us, us = Pl.usedC ⟨xv, xh⟩ := ⟨_, rfl⟩
      have m1 : us.length ≤ 8 := by rw [hus]; exact Pl.usedC_len _
      have m2 : ut.length ≤ 8 := by rw [hut]; exact Pl.usedC_len _
      rw [← hus, ← hut] at hb1
      rw [← hus, ← hut, ← hux] at hb2
      replace hb1 : xb = (decide (v = v9) && us.all fun n => !decide (n ∈ ut)) := hb1
      have C1 := Lib.hid (show ∀ W, Sts W A1 B1 ⟨v, h⟩ → Calls Try.prog 37 #[sval A1 B1 c1 d1 ⟨v, h⟩] W (ROut W us) from fun W k => by rw [hus]; exact UsedCells_c A1 B1 c1 d1 ⟨v, h⟩ W k (by show v.length ≤ _; omega) (by show h.length ≤ _; omega))
      have C2 := Lib.hid (show ∀ W, Sts W A9 B9 ⟨v9, h9⟩ → Calls Try.prog 37 #[sval A9 B9 c9 d9 ⟨v9, h9⟩] W (ROut W ut) from fun W k => by rw [hut]; exact UsedCells_c A9 B9 c9 d9 ⟨v9, h9⟩ W k (by show v9.length ≤ _; omega) (by show h9.length ≤ _; omega))
      have C3 := Lib.hid (show ∀ W, Sts W A3 B3 ⟨xv, xh⟩ → Calls Try.prog 37 #[sval A3 B3 c3 d3 ⟨xv, xh⟩] W (ROut W ux) from fun W k => by rw [hux]; exact UsedCells_c A3 B3 c3 d3 ⟨xv, xh⟩ W k (by show xv.length ≤ _; omega) (by show xh.length ≤ _; omega))
      have HB1 := Lib.hid hb1
      have HB2 := Lib.hid hb2
      clear hb1 hb2 hus hut hux
      obtain ⟨k0, k1, _, _⟩ := y1.facts
      go_wp2_with fail
      refine (C1.out _ S).mono ?_
      rintro e w10 ⟨A10, c10, rfl, o10, g10⟩
      have U := OInts.ints rfl o10
      clear k0 k1 o10
      replace y1 := y1.grow g10
      replace y2 := y2.grow g10
      replace y3 := y3.grow g10
      replace S := S.grow g10
      replace T := T.grow g10
      replace X := X.grow g10
      replace G := G.trans g10
      clear g10
      obtain ⟨k0, k1, _, _⟩ := y2.facts
      go_wp2_with fail
      refine (C2.out _ T).mono ?_
      rintro e w11 ⟨A11, c11, rfl, o11, g11⟩
      have V := OInts.ints rfl o11
      replace U := U.grow g11
      clear k0 k1 o11
      replace y1 := y1.grow g11
      replace y2 := y2.grow g11
      replace y3 := y3.grow g11
      replace S := S.grow g11
      replace T := T.grow g11
      replace X := X.grow g11
      replace G := G.trans g11
      clear g11
      obtain ⟨k0, k1, _, _⟩ := y1.facts
      obtain ⟨q0, q1, _, _⟩ := y2.facts
      go_wp2_with fail
      refine (slInts_c A1 A9 c1 c9 v v9 _ S.v T.v (by omega) (by omega)).mono ?_
      rintro e w12 ⟨rfl, g12⟩
      replace U := U.grow g12
      replace V := V.grow g12
      clear k0 k1 q0 q1
      replace y1 := y1.grow g12
      replace y2 := y2.grow g12
      replace y3 := y3.grow g12
      replace S := S.grow g12
      replace T := T.grow g12
      replace X := X.grow g12
      replace G := G.trans g12
      clear g12
      go_wp2_with fail
      go_loopw [11, 12] (fun a i wr => ∃ (k : Nat) (b : Bool), k ≤ us.length ∧ i = .int .i64 k ∧ a = .bool b ∧ Hid (b = (decide (v = v9) && (us.take k).all fun n => !decide (n ∈ ut))) ∧ wr = w12) (fun _ i _ => us.length - (intOf i).toNat)
      case atStart => exact ⟨0, _, Nat.zero_le _, rfl, rfl, Lib.hid (by simp), rfl⟩
      case round =>
        obtain ⟨k, b, hk, rfl, rfl, HB, rfl⟩ := hrel
        by_cases hlt : k < us.length
        · have hk2 : (k : Int) < (us.length : Int) := by omega
          have hk3 : (0 : Int) ≤ (k : Int) := by omega
          have hstep : (decide (v = v9) && (us.take (k + 1)).all fun n => !decide (n ∈ ut)) = (b && !decide (us[k] ∈ ut)) := by
            rw [HB.out, take_snoc us k hlt, List.all_append, Bool.and_assoc]; simp
          cases b with
          | false =>
            have HV := Lib.hid (show false = (decide (v = v9) && (us.take (k + 1)).all fun n => !decide (n ∈ ut)) by rw [hstep]; rfl)
            clear hstep HB
            go_wp2_with fail
            go_roundw
            case rel => exact ⟨k + 1, false, by omega, by go_num, rfl, HV, trivial⟩
            case measure => simp [intOf]; omega
          | true =>
            obtain ⟨b2, off, rfl, c0⟩ := U.at_ hlt
            have HV := Lib.hid (show (!decide (us[k] ∈ ut)) = (decide (v = v9) && (us.take (k + 1)).all fun n => !decide (n ∈ ut)) by rw [hstep]; rfl)
            clear hstep HB
            go_wp2_with fail
            refine (slHas_c A11 c11 ut us[k] _ V (by omega)).mono ?_
            rintro e w13 ⟨rfl, rfl⟩
            go_wp2_with fail
            go_roundw
            case rel => exact ⟨k + 1, _, by omega, by go_num, rfl, HV, trivial⟩
            case measure => simp [intOf]; omega
        · have hk2 : ¬ (k : Int) < (us.length : Int) := by omega
          obtain rfl : b = xb := by rw [HB.out, HB1.out, List.take_of_length_le (by omega)]
          clear HB
          cases b with
          | false =>
            go_wp2_with fail
            go_ret
            exact ⟨rfl, G⟩
          | true =>
            have hw : IntKind.i64.wrap ((us.length : Int) + (ut.length : Int)) = (us.length : Int) + (ut.length : Int) := IntWalk.i64_in _ (by omega)
            have H3 := Lib.hid (show ((ux.length : Int) == (us.length : Int) + (ut.length : Int)) = true by rw [HB2.out rfl, beq_iff_eq]; omega)
            obtain ⟨k0, k1, _, _⟩ := y3.facts
            go_wp2_with fail
            refine (C3.out _ X).mono ?_
            rintro e w13 ⟨A13, c13, rfl, o13, g13⟩
            have h3 := H3.out
            go_wp2_with fail
            go_ret
            exact ⟨by rw [← h3]; rfl, G.trans g13⟩

set_option maxRecDepth 100000 in
theorem lifted (os : Os) (started : os.Started) (H : Type) (enc : TypeId × Value → H) :
    ReturnsInHanded {} Try.checked os 10 .any (Rows.fnJoinDisjointSpec.pre6 enc Try.prog Try.f10 Rows.fnJoinDisjointRow.domain false) (Rows.fnJoinDisjointSpec.post enc Try.prog Try.f10 false true false false) := by
  refine returnsInHanded_of_change (C := Try.checked) own_knob started (by kernel_rfl) Try.func10
    (ChangeSpec.witness6 (enc := enc) (C := Try.checked) false ⟨#[], #[.slice none 0 0], []⟩ 8 (by kernel_rfl) (by kernel_rfl) (by kernel_rfl) (by kernel_rfl)) ?_
  intro W base args ds gs before hval0 hW hcnd _
  have hval : ∀ (j : Nat) t v, Try.f10.params[j]? = some t → args[j]? = some v → Value.okWide Try.prog W .any base t v := hval0
  have hW' := hW
  obtain ⟨p, q, hA0, hV, rfl, hfz, hnd⟩ := hW
  have hA : DataW.TrodAll enc Try.prog W 0 (fun _ => true) true Try.f10.params.toList args.toList ds p := hA0
  rw [Try.params10] at hA hval
  obtain ⟨v0, vs0, d0, ds0, p0, q0, hargs, rfl, rfl, h0, r0⟩ := trodAll_cons hA
  obtain ⟨rfl, rfl, rfl⟩ := trodAll_nil r0
  obtain rfl : args = #[v0] := by cases args; simp_all
  obtain ⟨rfl, rfl⟩ := trodVars_none hV
  have k0 := h0
  have lt0 : ∀ x ∈ p0, x.block < W.heap.size := by obtain ⟨m, hm⟩ := k0; exact DataW.trod_lt m _ _ _ hm
  obtain ⟨a0, len0, cap0, rfl⟩ := okWide_slice Try.underlying58 (hval 0 58 v0 rfl rfl)
  obtain ⟨hb0, w0, hc0⟩ : len0 ≤ 9223372036854775807 ∧ Bytes W a0 len0 ∧ len0 ≤ cap0 := by
    obtain ⟨fuel, hf⟩ := h0
    exact open_bytesL (by simpa [Value.cells] using hf)
  clear hA0 hval0
  refine (walk a0 cap0 len0 W w0 hb0 hc0).mono fun e W' ⟨he, bel⟩ => ?_
  subst he
  exact ⟨_, rfl, _, _, _, [], _, [], hW', trodAll_mk1 (shut_bool Try.underlying4 _), (trodAll_cons_mk (Below.trod laid_out (by kernel_rfl) (of_decide_eq_true (by kernel_rfl)) k0 bel lt0) trodAll_mk0), rfl, bel.frame _, fun h => by cases h⟩

theorem over : Rows.fnJoinDisjointRow.holds Try.pinned (OpenSpec.ofChange Rows.fnJoinDisjointSpec) :=
  OpenClaim.holds_of_wide 10 Try.f10 rfl rfl rfl rfl rfl rfl rfl ⟨rfl, rfl, rfl, rfl, rfl⟩ rfl rfl rfl rfl rfl (by kernel_rfl) Try.func10 (by kernel_rfl)
    (of_decide_eq_true (by kernel_rfl)) (by unfold Func.isWrapper; first | (rw [if_pos (by decide +kernel)]; kernel_rfl) | (rw [if_neg (by decide +kernel)]; exact ⟨rfl, rfl⟩))
    (fun os started H enc _ => lifted os started H enc)

/-- The statement. -/
theorem proved : Rows.FnJoinDisjointSaid := over
#print axioms proved

end Go.Proofs.Ytcipmmieiafpbaa.lawFnJoinDisjoint
