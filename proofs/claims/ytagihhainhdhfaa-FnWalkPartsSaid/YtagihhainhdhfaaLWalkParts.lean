/- FnWalkParts: whatever state and addresses are drawn, a way is the way to each of its cells and on from there. No conditions. -/
import Derived.Test.YtagihhainhdhfaaSt9
import Derived.Test.YtagihhainhdhfaaDrawS2
import Derived.Test.YtagihhainhdhfaaPlainLaws
import Derived.Test.YtagihhainhdhfaaRowAid
import Derived.Test.YtagihhainhdhfaaAppW
namespace Go.Proofs.Ytagihhainhdhfaa.lawFnWalkParts
open Go.ChangeShapes Go.WideShapes Go.ChangeAt Go.RowKit Go.Joins Go.Deep
open Go.ChangeMaps (open_string shut_string)
set_option linter.unusedVariables false

set_option maxRecDepth 100000 in
set_option maxHeartbeats 6400000 in
theorem walk (A : Option Addr) (c n : Nat) (B : Option Addr) (d m : Nat) (w : World) (hA : Bytes w A n) (hn : n ≤ 9223372036854775807) (hnc : n ≤ c) (hB : Bytes w B m) (hm : m ≤ 9223372036854775807) (hmd : m ≤ d) :
    Calls Try.prog 5 #[.slice A n c, .slice B m d] w fun e w' => e = .returned (.bool true) ∧ Grow w w' := by
  by_cases hn20 : (1048576 : Int) < (n : Int)
  · go_enter Try.func5, Try.ntmps5
    go_wp2
    go_ret
    exact ⟨rfl, (by repeat (first | exact Grow.refl _ | assumption | refine Grow.alloc ?_ _ | refine Grow.drew ?_ | refine Grow.drewN ?_ _ | refine Grow.trans ?_ (by assumption) | refine Grow.below ?_ (by assumption) (by first | exact Nat.le_refl _ | omega)))⟩
  by_cases hm20 : (1048576 : Int) < (m : Int)
  · go_enter Try.func5, Try.ntmps5
    go_wp2
    go_ret
    exact ⟨rfl, (by repeat (first | exact Grow.refl _ | assumption | refine Grow.alloc ?_ _ | refine Grow.drew ?_ | refine Grow.drewN ?_ _ | refine Grow.trans ?_ (by assumption) | refine Grow.below ?_ (by assumption) (by first | exact Nat.le_refl _ | omega)))⟩
  go_enter Try.func5, Try.ntmps5
  go_wp2_with fail
  refine (DrawWalkCells_c A n c _ hA hn hnc).mono ?_
  rintro e w1 ⟨A1, B1, c1, d1, v, h, a, b, rfl, o1, hl, hb_a, hb_b, g1⟩
  have S := o1.st
  have G : Grow w w1 := g1
  obtain ⟨hl1, hl2⟩ := hl
  clear o1 g1 hA hnc
  obtain ⟨⟨l, rb⟩, hr⟩ : ∃ r, r = Pl.walkC ⟨v, h⟩ a b := ⟨_, rfl⟩
  have hll : l.length ≤ 8 := by have hh := Pl.walkC_len ⟨v, h⟩ a b; rw [← hr] at hh; exact hh
  have CI := Lib.hid (show ∀ W, Sts W A1 B1 ⟨v, h⟩ → Calls Try.prog 22 #[sval A1 B1 c1 d1 ⟨v, h⟩, .int .i64 a, .int .i64 b] W (RWay W (l, rb)) from fun W k => by have kk := WalkCells_c A1 B1 c1 d1 ⟨v, h⟩ a b W k (by show v.length ≤ _; omega) (by show h.length ≤ _; omega); rw [← hr] at kk; exact kk)
  have CS := Lib.hid (show ∀ W, Sts W A1 B1 ⟨v, h⟩ → Calls Try.prog 23 #[sval A1 B1 c1 d1 ⟨v, h⟩, .int .i64 a, .int .i64 b] W (RWay W (l, rb)) from fun W k => by have kk := sWalkCells_c A1 B1 c1 d1 ⟨v, h⟩ a b W k (by show v.length ≤ _; omega) (by show h.length ≤ _; omega); rw [← hr] at kk; exact kk)
  have HR := Lib.hid hr
  clear hr
  go_wp2_with fail
  refine (CI.out _ (S.grow (by repeat (first | exact Grow.refl _ | assumption | refine Grow.alloc ?_ _ | refine Grow.drew ?_ | refine Grow.drewN ?_ _ | refine Grow.trans ?_ (by assumption) | refine Grow.below ?_ (by assumption) (by first | exact Nat.le_refl _ | omega))))).mono ?_
  rintro e w_1 ⟨A2, c2, rfl, o2, g_1⟩
  have q : Grow w1 w_1 := (by repeat (first | exact Grow.refl _ | assumption | refine Grow.alloc ?_ _ | refine Grow.drew ?_ | refine Grow.drewN ?_ _ | refine Grow.trans ?_ (by assumption) | refine Grow.below ?_ (by assumption) (by first | exact Nat.le_refl _ | omega)))
  have ys := (Box2.new w1 25 (.slice A1 v.length c1) (.slice B1 h.length d1)).grow g_1
  have zw_1 := ys.lt
  replace S := S.grow q
  replace G := G.trans q
  clear q g_1
  have U := OInts.ints rfl o2
  clear o2
  obtain ⟨ys0, ys1, _, _⟩ := ys.facts
  have ys2 := ys.lt
  go_wp2_with fail
  refine (CS.out _ S).mono ?_
  rintro e w_2 ⟨A3, c3, rfl, o3, g_2⟩
  clear ys0 ys1 ys2
  have q : Grow w_1 w_2 := (by repeat (first | exact Grow.refl _ | assumption | refine Grow.alloc ?_ _ | refine Grow.drew ?_ | refine Grow.drewN ?_ _ | refine Grow.trans ?_ (by assumption) | refine Grow.below ?_ (by assumption) (by first | exact Nat.le_refl _ | omega)))
  have zw_2 := q.le
  replace ys := ys.grow q
  replace S := S.grow q
  replace U := U.grow q
  replace G := G.trans q
  clear q g_2
  have U3 := OInts.ints rfl o3
  clear o3
  go_wp2_with fail
  refine (slInts_c A2 A3 c2 c3 l l _ U U3 (by omega) (by omega)).mono ?_
  rintro e w_3 ⟨rfl, g_3⟩
  have q : Grow w_2 w_3 := (by repeat (first | exact Grow.refl _ | assumption | refine Grow.alloc ?_ _ | refine Grow.drew ?_ | refine Grow.drewN ?_ _ | refine Grow.trans ?_ (by assumption) | refine Grow.below ?_ (by assumption) (by first | exact Nat.le_refl _ | omega)))
  have zw_3 := q.le
  replace ys := ys.grow q
  replace S := S.grow q
  replace U := U.grow q
  replace U3 := U3.grow q
  replace G := G.trans q
  clear q g_3
  clear CI CS
  cases rb with
  | false =>
    go_wp2_with fail
    refine (slInts_c A2 A3 c2 c3 l l _ U U3 (by omega) (by omega)).mono ?_
    rintro e w_4 ⟨rfl, g_4⟩
    have q : Grow w_3 w_4 := (by repeat (first | exact Grow.refl _ | assumption | refine Grow.alloc ?_ _ | refine Grow.drew ?_ | refine Grow.drewN ?_ _ | refine Grow.trans ?_ (by assumption) | refine Grow.below ?_ (by assumption) (by first | exact Nat.le_refl _ | omega)))
    have zw_4 := q.le
    replace ys := ys.grow q
    replace S := S.grow q
    replace U := U.grow q
    replace U3 := U3.grow q
    replace G := G.trans q
    clear q g_4
    go_wp2_with fail
    go_ret
    exact ⟨by simp, G⟩
  | true =>
    have L := Lib.hid (Pl.way_law HR.out)
    by_cases hl0 : l.length = 0
    · have b0 : ((l.length : Int) == 0) = true := by simp [hl0]
      clear hl0
      go_wp2_with fail
      refine (slInts_c A2 A3 c2 c3 l l _ U U3 (by omega) (by omega)).mono ?_
      rintro e w_4 ⟨rfl, g_4⟩
      have q : Grow w_3 w_4 := (by repeat (first | exact Grow.refl _ | assumption | refine Grow.alloc ?_ _ | refine Grow.drew ?_ | refine Grow.drewN ?_ _ | refine Grow.trans ?_ (by assumption) | refine Grow.below ?_ (by assumption) (by first | exact Nat.le_refl _ | omega)))
      have zw_4 := q.le
      replace ys := ys.grow q
      replace S := S.grow q
      replace U := U.grow q
      replace U3 := U3.grow q
      replace G := G.trans q
      clear q g_4
      go_wp2_with fail
      go_ret
      exact ⟨by simp, G⟩
    · have b0 : ((l.length : Int) == 0) = false := by rw [beq_eq_false_iff_ne]; omega
      clear U3
      obtain ⟨jj, hkm⟩ : ∃ jj : Nat, jj = m % l.length := ⟨_, rfl⟩
      have hkl : jj < l.length := by rw [hkm]; exact Nat.mod_lt _ (by omega)
      have e1 : (m : Int) % (l.length : Int) = (jj : Int) := by rw [hkm, Int.natCast_emod]
      have hl1 : (1 : Int) ≤ (l.length : Int) := by omega
      have hk0 : (0 : Int) ≤ (jj : Int) := by omega
      have hk1 : (jj : Int) < (l.length : Int) := by omega
      clear hkm hl0
      obtain ⟨lt, htk⟩ : ∃ x, x = l.take jj := ⟨_, rfl⟩
      obtain ⟨ld, hdk⟩ : ∃ x, x = l.drop jj := ⟨_, rfl⟩
      have HT := Lib.hid (show lt ++ ld = l by rw [htk, hdk]; exact List.take_append_drop jj l)
      have hlt : lt.length ≤ 8 := by rw [htk, List.length_take]; omega
      have hld : ld.length ≤ 8 := by rw [hdk, List.length_drop]; omega
      have C1 := Lib.hid (show ∀ W, Sts W A1 B1 ⟨v, h⟩ → Calls Try.prog 22 #[sval A1 B1 c1 d1 ⟨v, h⟩, .int .i64 a, .int .i64 l[jj]] W (RWay W (lt, true)) from fun W k => by have kk := WalkCells_c A1 B1 c1 d1 ⟨v, h⟩ a l[jj] W k (by show v.length ≤ _; omega) (by show h.length ≤ _; omega); rw [L.out.p1 jj hkl, ← htk] at kk; exact kk)
      have C2 := Lib.hid (show ∀ W, Sts W A1 B1 ⟨v, h⟩ → Calls Try.prog 22 #[sval A1 B1 c1 d1 ⟨v, h⟩, .int .i64 l[jj], .int .i64 b] W (RWay W (ld, true)) from fun W k => by have kk := WalkCells_c A1 B1 c1 d1 ⟨v, h⟩ l[jj] b W k (by show v.length ≤ _; omega) (by show h.length ≤ _; omega); rw [L.out.p2 jj hkl, ← hdk] at kk; exact kk)
      clear htk hdk
      obtain ⟨bu, ou, rfl, cu⟩ := U.at_ hkl
      obtain ⟨ys0, ys1, _, _⟩ := ys.facts
      have ys2 := ys.lt
      go_wp2_with fail
      go_region_held3 (fun W => W.cell? ⟨w1.heap.size, 0, none⟩ = some (.slice A1 v.length c1) ∧ W.cell? ⟨w1.heap.size, 1, none⟩ = some (.slice B1 h.length d1) ∧ W.cell? ⟨bu, ou + jj, none⟩ = some (.int .i64 l[jj]))
        (first | go_keep | (go_split_ands; exact ⟨g_4.cell (by assumption), g_4.cell (by assumption), g_4.cell (by assumption)⟩))
        ((go_at_call 22; refine (C1.out _ (S.grow (by repeat (first | exact Grow.refl _ | assumption | refine Grow.alloc ?_ _ | refine Grow.drew ?_ | refine Grow.drewN ?_ _ | refine Grow.trans ?_ (by assumption) | refine Grow.below ?_ (by assumption) (by first | exact Nat.le_refl _ | omega))))).mono ?_; rintro e w_4 ⟨A7, c7, rfl, o7, g_4⟩))
      clear ys0 ys1 ys2
      have q : Grow w_3 w_4 := (by repeat (first | exact Grow.refl _ | assumption | refine Grow.alloc ?_ _ | refine Grow.drew ?_ | refine Grow.drewN ?_ _ | refine Grow.trans ?_ (by assumption) | refine Grow.below ?_ (by assumption) (by first | exact Nat.le_refl _ | omega)))
      have zw_4 := q.le
      replace ys := ys.grow q
      replace S := S.grow q
      replace U := U.grow q
      replace G := G.trans q
      clear q g_4
      have U7 := OInts.ints rfl o7
      clear o7
      have cu2 : w_4.cell? ⟨bu, ou + jj, none⟩ = some (.int .i64 l[jj]) := by obtain ⟨b, o, hh, c⟩ := U.at_ hkl; injection hh with hh; injection hh with h1 h2 _; subst h1 h2; exact c
      clear cu
      obtain ⟨ys0, ys1, _, _⟩ := ys.facts
      have ys2 := ys.lt
      go_wp2_with fail
      go_region_held3 (fun W => W.cell? ⟨w1.heap.size, 0, none⟩ = some (.slice A1 v.length c1) ∧ W.cell? ⟨w1.heap.size, 1, none⟩ = some (.slice B1 h.length d1) ∧ W.cell? ⟨bu, ou + jj, none⟩ = some (.int .i64 l[jj]))
        (first | go_keep | (go_split_ands; exact ⟨g_5.cell (by assumption), g_5.cell (by assumption), g_5.cell (by assumption)⟩))
        ((go_at_call 22; refine (C2.out _ (S.grow (by repeat (first | exact Grow.refl _ | assumption | refine Grow.alloc ?_ _ | refine Grow.drew ?_ | refine Grow.drewN ?_ _ | refine Grow.trans ?_ (by assumption) | refine Grow.below ?_ (by assumption) (by first | exact Nat.le_refl _ | omega))))).mono ?_; rintro e w_5 ⟨A8, c8, rfl, o8, g_5⟩))
      clear ys0 ys1 ys2
      have q : Grow w_4 w_5 := (by repeat (first | exact Grow.refl _ | assumption | refine Grow.alloc ?_ _ | refine Grow.drew ?_ | refine Grow.drewN ?_ _ | refine Grow.trans ?_ (by assumption) | refine Grow.below ?_ (by assumption) (by first | exact Nat.le_refl _ | omega)))
      have zw_5 := q.le
      replace ys := ys.grow q
      replace S := S.grow q
      replace U := U.grow q
      replace U7 := U7.grow q
      replace G := G.trans q
      clear q g_5
      have U8 := OInts.ints rfl o8
      clear o8 cu2
      obtain ⟨i0, hi, hz0, hz1, hz2⟩ := info_parts int_info
      have T7 := U7.cells
      have T8 := U8.cells
      go_wp2_with (first | (at_builtin; (refine wpList_append_w _ (by rfl) (.tmp 101) (.tmp 102) 23 (by rfl) w_5.heap.size 3 i0 _ 1 8 Try.underlying23 hi hz0 hz1 hz2 rfl (by omega) _ 0 [] (by rfl) (own_empty (heap_alloc_new _ _) (Nat.le_refl _)) A7 lt.length c7 (lt.map (Value.int .i64)) (by rfl) (by simp) (T7.grow (by repeat (first | exact Grow.refl _ | assumption | refine Grow.alloc ?_ _ | refine Grow.drew ?_ | refine Grow.drewN ?_ _ | refine Grow.trans ?_ (by assumption) | refine Grow.below ?_ (by assumption) (by first | exact Nat.le_refl _ | omega)))) (by simp [Value.oneCell']) (by unfold maxLen; omega) (by omega) (Grow.le (by repeat (first | exact Grow.refl _ | assumption | refine Grow.alloc ?_ _ | refine Grow.drew ?_ | refine Grow.drewN ?_ _ | refine Grow.trans ?_ (by assumption) | refine Grow.below ?_ (by assumption) (by first | exact Nat.le_refl _ | omega)))) lt.length (by omega) (lt.map (Value.int .i64)) (by simp) ?_; intro A20 c20 w20 o20 _ _ b20)) | (at_builtin; (refine wpList_append_w _ (by rfl) (.tmp 103) (.tmp 104) 23 (by rfl) w_5.heap.size 3 i0 _ 1 8 Try.underlying23 hi hz0 hz1 hz2 rfl (by omega) _ lt.length (lt.map (Value.int .i64)) (by rfl) o20 A8 ld.length c8 (ld.map (Value.int .i64)) (by rfl) (by simp) (T8.grow (by repeat (first | exact Grow.refl _ | assumption | refine Grow.alloc ?_ _ | refine Grow.drew ?_ | refine Grow.drewN ?_ _ | refine Grow.trans ?_ (by assumption) | refine Grow.below ?_ (by assumption) (by first | exact Nat.le_refl _ | omega)))) (by simp [Value.oneCell']) (by unfold maxLen; omega) (by omega) (Grow.le (by repeat (first | exact Grow.refl _ | assumption | refine Grow.alloc ?_ _ | refine Grow.drew ?_ | refine Grow.drewN ?_ _ | refine Grow.trans ?_ (by assumption) | refine Grow.below ?_ (by assumption) (by first | exact Nat.le_refl _ | omega)))) (lt ++ ld).length (by simp) ((lt ++ ld).map (Value.int .i64)) (by simp) ?_; intro A21 c21 w21 o21 _ _ b21)))
      have q : Grow w_5 w21 := (by repeat (first | exact Grow.refl _ | assumption | refine Grow.alloc ?_ _ | refine Grow.drew ?_ | refine Grow.drewN ?_ _ | refine Grow.trans ?_ (by assumption) | refine Grow.below ?_ (by assumption) (by first | exact Nat.le_refl _ | omega)))
      replace o21 : OInts w21 w_5.heap.size (.slice A21 (lt ++ ld).length c21) (lt ++ ld) := o21
      have U21 := OInts.ints rfl o21
      rw [HT.out] at U21
      replace U := U.grow q
      replace G := G.trans q
      have hE := slInts_c A21 (some ⟨bu, ou, none⟩) c21 c2 l l w21 U21 U (by omega) (by omega)
      rw [show decide (l = l) = true from decide_eq_true rfl] at hE
      have HE := Lib.hid (show Calls Try.prog 24 #[.slice A21 (lt.length + ld.length) c21, .slice (some ⟨bu, ou, none⟩) l.length c2] w21 fun e w' => e = .returned (.bool true) ∧ Grow w21 w' by rw [show lt.length + ld.length = l.length from by rw [← List.length_append, HT.out]]; exact hE)
      clear hE
      (with_reducible refine HE.out.mono ?_)
      rintro e w22 ⟨rfl, g22⟩
      have GE := G.trans g22
      go_wp2_with fail
      go_ret
      exact ⟨rfl, GE⟩

set_option maxRecDepth 100000 in
theorem lifted (os : Os) (started : os.Started) (H : Type) (enc : TypeId × Value → H) :
    ReturnsInHanded {} Try.checked os 5 .any (Rows.fnWalkPartsSpec.pre6 enc Try.prog Try.f5 Rows.fnWalkPartsRow.domain false) (Rows.fnWalkPartsSpec.post enc Try.prog Try.f5 false true false false) := by
  refine returnsInHanded_of_change (C := Try.checked) own_knob started (by kernel_rfl) Try.func5
    (ChangeSpec.witness6 (enc := enc) (C := Try.checked) false ⟨#[], #[.slice none 0 0, .slice none 0 0], []⟩ 8 (by kernel_rfl) (by kernel_rfl) (by kernel_rfl) (by kernel_rfl)) ?_
  intro W base args ds gs before hval0 hW hcnd _
  have hval : ∀ (j : Nat) t v, Try.f5.params[j]? = some t → args[j]? = some v → Value.okWide Try.prog W .any base t v := hval0
  have hW' := hW
  obtain ⟨p, q, hA0, hV, rfl, hfz, hnd⟩ := hW
  have hA : DataW.TrodAll enc Try.prog W 0 (fun _ => true) true Try.f5.params.toList args.toList ds p := hA0
  rw [Try.params5] at hA hval
  obtain ⟨v0, vs0, d0, ds0, p0, q0, hargs, rfl, rfl, h0, r0⟩ := trodAll_cons hA
  obtain ⟨v1, vs1, d1, ds1, p1, q1, rfl, rfl, rfl, h1, r1⟩ := trodAll_cons r0
  obtain ⟨rfl, rfl, rfl⟩ := trodAll_nil r1
  obtain rfl : args = #[v0, v1] := by cases args; simp_all
  obtain ⟨rfl, rfl⟩ := trodVars_none hV
  have k0 := h0
  have lt0 : ∀ x ∈ p0, x.block < W.heap.size := by obtain ⟨m, hm⟩ := k0; exact DataW.trod_lt m _ _ _ hm
  obtain ⟨a0, len0, cap0, rfl⟩ := okWide_slice Try.underlying22 (hval 0 22 v0 rfl rfl)
  obtain ⟨hb0, w0, hc0⟩ : len0 ≤ 9223372036854775807 ∧ Bytes W a0 len0 ∧ len0 ≤ cap0 := by
    obtain ⟨fuel, hf⟩ := h0
    exact open_bytesL (by simpa [Value.cells] using hf)
  have k1 := h1
  have lt1 : ∀ x ∈ p1, x.block < W.heap.size := by obtain ⟨m, hm⟩ := k1; exact DataW.trod_lt m _ _ _ hm
  obtain ⟨a1, len1, cap1, rfl⟩ := okWide_slice Try.underlying22 (hval 1 22 v1 rfl rfl)
  obtain ⟨hb1, w1, hc1⟩ : len1 ≤ 9223372036854775807 ∧ Bytes W a1 len1 ∧ len1 ≤ cap1 := by
    obtain ⟨fuel, hf⟩ := h1
    exact open_bytesL (by simpa [Value.cells] using hf)
  clear hA0 hval0
  refine (walk a0 cap0 len0 a1 cap1 len1 W w0 hb0 hc0 w1 hb1 hc1).mono fun e W' ⟨he, bel⟩ => ?_
  subst he
  exact ⟨_, rfl, _, _, _, [], _, [], hW', trodAll_mk1 (shut_bool Try.underlying4 _), (trodAll_cons_mk (Below.trod laid_out (by kernel_rfl) (of_decide_eq_true (by kernel_rfl)) k0 bel lt0) (trodAll_cons_mk (Below.trod laid_out (by kernel_rfl) (of_decide_eq_true (by kernel_rfl)) k1 bel lt1) trodAll_mk0)), rfl, bel.frame _, fun h => by cases h⟩

theorem over : Rows.fnWalkPartsRow.holds Try.pinned (OpenSpec.ofChange Rows.fnWalkPartsSpec) :=
  OpenClaim.holds_of_wide 5 Try.f5 rfl rfl rfl rfl rfl rfl rfl ⟨rfl, rfl, rfl, rfl, rfl⟩ rfl rfl rfl rfl rfl (by kernel_rfl) Try.func5 (by kernel_rfl)
    (of_decide_eq_true (by kernel_rfl)) (by unfold Func.isWrapper; first | (rw [if_pos (by decide +kernel)]; kernel_rfl) | (rw [if_neg (by decide +kernel)]; exact ⟨rfl, rfl⟩))
    (fun os started H enc _ => lifted os started H enc)

/-- The statement. -/
theorem proved : Rows.FnWalkPartsSaid := over
#print axioms proved

end Go.Proofs.Ytagihhainhdhfaa.lawFnWalkParts
