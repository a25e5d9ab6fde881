/- FnAllocLeast: whatever state is drawn, the least free address is allocated. No conditions. -/
import Derived.Test.YtagihhainhdhfaaSt9
import Derived.Test.YtagihhainhdhfaaDrawS2
import Derived.Test.YtagihhainhdhfaaPlainLaws
import Derived.Test.YtagihhainhdhfaaRowAid
namespace Go.Proofs.Ytagihhainhdhfaa.lawFnAllocLeast
open Go.ChangeShapes Go.WideShapes Go.ChangeAt Go.RowKit Go.Joins Go.Deep
open Go.ChangeMaps (open_string shut_string)
set_option linter.unusedVariables false

set_option maxRecDepth 100000 in
set_option maxHeartbeats 6400000 in
theorem walk (A : Option Addr) (c n : Nat) (w : World) (hA : Bytes w A n) (hn : n ≤ 9223372036854775807) (hnc : n ≤ c) :
    Calls Try.prog 9 #[.slice A n c] w fun e w' => e = .returned (.bool true) ∧ Grow w w' := by
  by_cases hn20 : (1048576 : Int) < (n : Int)
  · go_enter Try.func9, Try.ntmps9
    go_wp2
    go_ret
    exact ⟨rfl, (by repeat (first | exact Grow.refl _ | assumption | refine Grow.alloc ?_ _ | refine Grow.drew ?_ | refine Grow.drewN ?_ _ | refine Grow.trans ?_ (by assumption) | refine Grow.below ?_ (by assumption) (by first | exact Nat.le_refl _ | omega)))⟩
  go_enter Try.func9, Try.ntmps9
  go_wp2_with fail
  refine (DrawAllocCell_c A n c _ hA hn hnc).mono ?_
  rintro e w1 ⟨A1, B1, c1, d1, v, h, rfl, o1, hl, g1⟩
  have S := o1.st
  have G : Grow w w1 := g1
  obtain ⟨hl1, hl2⟩ := hl
  clear o1 g1 hA hnc
  obtain ⟨us, hus⟩ : ∃ l, l = Pl.usedC ⟨v, h⟩ := ⟨_, rfl⟩
  have hlu : us.length ≤ 8 := by rw [hus]; exact Pl.usedC_len _
  have CU := Lib.hid (show ∀ W, Sts W A1 B1 ⟨v, h⟩ → Calls Try.prog 26 #[sval A1 B1 c1 d1 ⟨v, h⟩] W (ROut W us) from fun W k => by have kk := UsedCells_c A1 B1 c1 d1 ⟨v, h⟩ W k (by show v.length ≤ _; omega) (by show h.length ≤ _; omega); rw [← hus] at kk; exact kk)
  obtain ⟨⟨⟨rv, rh⟩, nn, rb⟩, hr⟩ : ∃ r, r = Pl.allocC ⟨v, h⟩ := ⟨_, rfl⟩
  have hl : rv.length ≤ 100 ∧ rh.length ≤ 100 := by have hh := Pl.allocC_len (n := 100) ⟨v, h⟩ (by show v.length ≤ _; omega) (by show h.length ≤ _; omega); rw [← hr] at hh; exact hh
  obtain ⟨hl3, hl4⟩ := hl
  have CI := Lib.hid (show ∀ W, Sts W A1 B1 ⟨v, h⟩ → Calls Try.prog 32 #[sval A1 B1 c1 d1 ⟨v, h⟩] W (RSt3 W (⟨rv, rh⟩, nn, rb)) from fun W k => by have kk := AllocCell_c A1 B1 c1 d1 ⟨v, h⟩ W k (by show v.length ≤ _; omega) (by show h.length ≤ _; omega); rw [← hr] at kk; exact kk)
  have CS := Lib.hid (show ∀ W, Sts W A1 B1 ⟨v, h⟩ → Calls Try.prog 33 #[sval A1 B1 c1 d1 ⟨v, h⟩] W (RSt3 W (⟨rv, rh⟩, nn, rb)) from fun W k => by have kk := sAllocCell_c A1 B1 c1 d1 ⟨v, h⟩ W k (by show v.length ≤ _; omega) (by show h.length ≤ _; omega); rw [← hr] at kk; exact kk)
  have b1 : (nn != nn) = false := by simp
  have b2 : (nn == nn) = true := by simp
  have HR := Lib.hid hr
  have HUS := Lib.hid hus
  clear hr hus
  go_wp2_with fail
  refine (CI.out _ (S.grow (by repeat (first | exact Grow.refl _ | assumption | refine Grow.alloc ?_ _ | refine Grow.drew ?_ | refine Grow.drewN ?_ _ | refine Grow.trans ?_ (by assumption) | refine Grow.below ?_ (by assumption) (by first | exact Nat.le_refl _ | omega))))).mono ?_
  rintro e w_1 ⟨A2, B2, c2, d2, rfl, o2, g_1⟩
  have q : Grow w1 w_1 := (by repeat (first | exact Grow.refl _ | assumption | refine Grow.alloc ?_ _ | refine Grow.drew ?_ | refine Grow.drewN ?_ _ | refine Grow.trans ?_ (by assumption) | refine Grow.below ?_ (by assumption) (by first | exact Nat.le_refl _ | omega)))
  have ys := (Box2.new w1 25 (.slice A1 v.length c1) (.slice B1 h.length d1)).grow g_1
  have zw_1 := ys.lt
  replace S := S.grow q
  replace G := G.trans q
  clear q g_1
  clear o2
  obtain ⟨ys0, ys1, _, _⟩ := ys.facts
  have ys2 := ys.lt
  go_wp2_with fail
  refine (CS.out _ (S.grow (by repeat (first | exact Grow.refl _ | assumption | refine Grow.alloc ?_ _ | refine Grow.drew ?_ | refine Grow.drewN ?_ _ | refine Grow.trans ?_ (by assumption) | refine Grow.below ?_ (by assumption) (by first | exact Nat.le_refl _ | omega))))).mono ?_
  rintro e w_2 ⟨A3, B3, c3, d3, rfl, o3, g_2⟩
  clear ys0 ys1 ys2
  have q : Grow w_1 w_2 := (by repeat (first | exact Grow.refl _ | assumption | refine Grow.alloc ?_ _ | refine Grow.drew ?_ | refine Grow.drewN ?_ _ | refine Grow.trans ?_ (by assumption) | refine Grow.below ?_ (by assumption) (by first | exact Nat.le_refl _ | omega)))
  have zw_2 := q.le
  replace ys := ys.grow q
  replace S := S.grow q
  replace G := G.trans q
  clear q g_2
  clear o3
  obtain ⟨ys0, ys1, _, _⟩ := ys.facts
  have ys2 := ys.lt
  go_wp2_with fail
  refine (CU.out _ (S.grow (by repeat (first | exact Grow.refl _ | assumption | refine Grow.alloc ?_ _ | refine Grow.drew ?_ | refine Grow.drewN ?_ _ | refine Grow.trans ?_ (by assumption) | refine Grow.below ?_ (by assumption) (by first | exact Nat.le_refl _ | omega))))).mono ?_
  rintro e w_3 ⟨A4, c4, rfl, o4, g_3⟩
  clear ys0 ys1 ys2
  have q : Grow w_2 w_3 := (by repeat (first | exact Grow.refl _ | assumption | refine Grow.alloc ?_ _ | refine Grow.drew ?_ | refine Grow.drewN ?_ _ | refine Grow.trans ?_ (by assumption) | refine Grow.below ?_ (by assumption) (by first | exact Nat.le_refl _ | omega)))
  have zw_3 := q.le
  replace ys := ys.grow q
  replace S := S.grow q
  replace G := G.trans q
  clear q g_3
  have U := OInts.ints rfl o4
  clear o4 CI CS CU
  cases rb with
  | false =>
    cases hs : Pl.stv ⟨v, h⟩ with
    | false =>
      have HS := Lib.hid hs
      clear hs
      obtain ⟨ys0, ys1, _, _⟩ := ys.facts
      have ys2 := ys.lt
      go_wp2_with fail
      refine (StateValid_c A1 B1 c1 d1 ⟨v, h⟩ _ S (by show v.length ≤ _; omega) (by show h.length ≤ _; omega)).mono ?_
      rintro e w_4 ⟨rfl, g_4⟩
      clear ys0 ys1 ys2
      have q : Grow w_3 w_4 := (by repeat (first | exact Grow.refl _ | assumption | refine Grow.alloc ?_ _ | refine Grow.drew ?_ | refine Grow.drewN ?_ _ | refine Grow.trans ?_ (by assumption) | refine Grow.below ?_ (by assumption) (by first | exact Nat.le_refl _ | omega)))
      have zw_4 := q.le
      replace ys := ys.grow q
      replace S := S.grow q
      replace U := U.grow q
      replace G := G.trans q
      clear q g_4
      rw [HS.out]
      go_wp2_with fail
      go_ret
      exact ⟨rfl, G⟩
    | true =>
      have HS := Lib.hid hs
      have b8 : ((us.length : Int) == 8) = true := by have hh := Pl.alloc_full HR.out hs; rw [← HUS.out] at hh; simp; omega
      clear hs
      obtain ⟨ys0, ys1, _, _⟩ := ys.facts
      have ys2 := ys.lt
      go_wp2_with fail
      refine (StateValid_c A1 B1 c1 d1 ⟨v, h⟩ _ S (by show v.length ≤ _; omega) (by show h.length ≤ _; omega)).mono ?_
      rintro e w_4 ⟨rfl, g_4⟩
      clear ys0 ys1 ys2
      have q : Grow w_3 w_4 := (by repeat (first | exact Grow.refl _ | assumption | refine Grow.alloc ?_ _ | refine Grow.drew ?_ | refine Grow.drewN ?_ _ | refine Grow.trans ?_ (by assumption) | refine Grow.below ?_ (by assumption) (by first | exact Nat.le_refl _ | omega)))
      have zw_4 := q.le
      replace ys := ys.grow q
      replace S := S.grow q
      replace U := U.grow q
      replace G := G.trans q
      clear q g_4
      rw [HS.out]
      go_wp2_with fail
      go_ret
      exact ⟨rfl, G⟩
  | true =>
    have L := Lib.hid (Pl.alloc_law HR.out)
    have hn0 := L.out.n0
    obtain ⟨n1, rfl⟩ : ∃ n1 : Nat, nn = (n1 : Int) + 1 := ⟨(nn - 1).toNat, by omega⟩
    have HLOW := Lib.hid (show ∀ i : Int, 1 ≤ i → i < (n1 : Int) + 1 → decide (i ∈ us) = true from fun i h1 h2 => decide_eq_true (by rw [HUS.out]; exact L.out.low i h1 h2))
    have HOUT := Lib.hid (show decide (((n1 : Int) + 1) ∈ us) = false from decide_eq_false (by rw [HUS.out]; exact L.out.out))
    go_wp2_with fail
    go_loopw [11] (fun i wr => ∃ k : Nat, k ≤ n1 ∧ i = .int .i64 ((k : Int) + 1) ∧ Grow w wr ∧ Sts wr A1 B1 ⟨v, h⟩ ∧ Ints wr A4 us ∧ Box2 wr w1.heap.size 25 (.slice A1 v.length c1) (.slice B1 h.length d1)) (fun i _ => n1 + 1 - (intOf i).toNat)
    case atStart => exact ⟨0, Nat.zero_le _, rfl, G, S, U, ys⟩
    case round =>
      clear G S U ys
      obtain ⟨k, hk, rfl, G, S, U, ys⟩ := hrel
      by_cases hk9 : k < n1
      · have hk8 : (k : Int) + 1 < (n1 : Int) + 1 := by omega
        have HB := Lib.hid (HLOW.out ((k : Int) + 1) (by omega) hk8)
        go_wp2_with fail
        refine (slHas_c A4 c4 us ((k : Int) + 1) _ U (by omega)).mono ?_
        rintro e w9 ⟨rfl, rfl⟩
        rw [HB.out]
        go_wp2_with fail
        go_roundw
        case rel => exact ⟨k + 1, by omega, by go_num, G, S, U, ys⟩
        case measure => simp [intOf]; omega
      · have hk8 : ¬ (k : Int) + 1 < (n1 : Int) + 1 := by omega
        go_wp2_with fail
        refine (slHas_c A4 c4 us ((n1 : Int) + 1) _ U (by omega)).mono ?_
        rintro e w9 ⟨rfl, rfl⟩
        rw [HOUT.out]
        go_wp2_with fail
        go_ret
        exact ⟨rfl, G⟩

set_option maxRecDepth 100000 in
theorem lifted (os : Os) (started : os.Started) (H : Type) (enc : TypeId × Value → H) :
    ReturnsInHanded {} Try.checked os 9 .any (Rows.fnAllocLeastSpec.pre6 enc Try.prog Try.f9 Rows.fnAllocLeastRow.domain false) (Rows.fnAllocLeastSpec.post enc Try.prog Try.f9 false true false false) := by
  refine returnsInHanded_of_change (C := Try.checked) own_knob started (by kernel_rfl) Try.func9
    (ChangeSpec.witness6 (enc := enc) (C := Try.checked) false ⟨#[], #[.slice none 0 0], []⟩ 8 (by kernel_rfl) (by kernel_rfl) (by kernel_rfl) (by kernel_rfl)) ?_
  intro W base args ds gs before hval0 hW hcnd _
  have hval : ∀ (j : Nat) t v, Try.f9.params[j]? = some t → args[j]? = some v → Value.okWide Try.prog W .any base t v := hval0
  have hW' := hW
  obtain ⟨p, q, hA0, hV, rfl, hfz, hnd⟩ := hW
  have hA : DataW.TrodAll enc Try.prog W 0 (fun _ => true) true Try.f9.params.toList args.toList ds p := hA0
  rw [Try.params9] at hA hval
  obtain ⟨v0, vs0, d0, ds0, p0, q0, hargs, rfl, rfl, h0, r0⟩ := trodAll_cons hA
  obtain ⟨rfl, rfl, rfl⟩ := trodAll_nil r0
  obtain rfl : args = #[v0] := by cases args; simp_all
  obtain ⟨rfl, rfl⟩ := trodVars_none hV
  have k0 := h0
  have lt0 : ∀ x ∈ p0, x.block < W.heap.size := by obtain ⟨m, hm⟩ := k0; exact DataW.trod_lt m _ _ _ hm
  obtain ⟨a0, len0, cap0, rfl⟩ := okWide_slice Try.underlying22 (hval 0 22 v0 rfl rfl)
  obtain ⟨hb0, w0, hc0⟩ : len0 ≤ 9223372036854775807 ∧ Bytes W a0 len0 ∧ len0 ≤ cap0 := by
    obtain ⟨fuel, hf⟩ := h0
    exact open_bytesL (by simpa [Value.cells] using hf)
  clear hA0 hval0
  refine (walk a0 cap0 len0 W w0 hb0 hc0).mono fun e W' ⟨he, bel⟩ => ?_
  subst he
  exact ⟨_, rfl, _, _, _, [], _, [], hW', trodAll_mk1 (shut_bool Try.underlying4 _), (trodAll_cons_mk (Below.trod laid_out (by kernel_rfl) (of_decide_eq_true (by kernel_rfl)) k0 bel lt0) trodAll_mk0), rfl, bel.frame _, fun h => by cases h⟩

theorem over : Rows.fnAllocLeastRow.holds Try.pinned (OpenSpec.ofChange Rows.fnAllocLeastSpec) :=
  OpenClaim.holds_of_wide 9 Try.f9 rfl rfl rfl rfl rfl rfl rfl ⟨rfl, rfl, rfl, rfl, rfl⟩ rfl rfl rfl rfl rfl (by kernel_rfl) Try.func9 (by kernel_rfl)
    (of_decide_eq_true (by kernel_rfl)) (by unfold Func.isWrapper; first | (rw [if_pos (by decide +kernel)]; kernel_rfl) | (rw [if_neg (by decide +kernel)]; exact ⟨rfl, rfl⟩))
    (fun os started H enc _ => lifted os started H enc)

/-- The statement. -/
theorem proved : Rows.FnAllocLeastSaid := over
#print axioms proved

end Go.Proofs.Ytagihhainhdhfaa.lawFnAllocLeast
