/- FnFactsOrder: whatever facts are drawn, classes and consistency do not depend on the order of the facts. No conditions. -/
import Derived.Test.YtcpkmnlhenbnlaaFactI
import Derived.Test.YtcpkmnlhenbnlaaFactT
import Derived.Test.YtcpkmnlhenbnlaaDrawG
import Derived.Test.YtcpkmnlhenbnlaaAid
import Derived.Test.YtcpkmnlhenbnlaaRowAid
namespace Go.Proofs.Ytcpkmnlhenbnlaa.lawFnFactsOrder
open Go.ChangeShapes Go.WideShapes Go.ChangeAt Go.RowKit Go.Joins Go.Deep
open Go.ChangeMaps (open_string shut_string)
set_option linter.unusedVariables false

theorem tcl_back (l : List Pl.Fct) : tcl (l.map Pl.swp).reverse = tcl l := by
  unfold tcl
  rw [Pl.fsv_back]
  split
  · unfold Pl.clsL
    refine List.map_congr_left fun t _ => ?_
    rw [Pl.cls_back]
  · rfl
theorem back_step (l : List Pl.Fct) (k : Nat) (h : k < l.length) : ((l.drop k).map Pl.swp).reverse = ((l.drop (k + 1)).map Pl.swp).reverse ++ [Pl.swp l[k]] := by
  rw [List.drop_eq_getElem_cons h, List.map_cons, List.reverse_cons]
theorem back_len (l : List Pl.Fct) (k : Nat) : ((l.drop k).map Pl.swp).reverse.length = l.length - k := by simp

set_option maxHeartbeats 1600000 in
theorem walk (A : Option Addr) (c n : Nat) (w : World) (hA : Bytes w A n) (hn : n ≤ 9223372036854775807) (hnc : n ≤ c) :
    Calls Try.prog 10 #[.slice A n c] w fun e w' => e = .returned (.bool true) ∧ Grow w w' := by
  by_cases hn20 : (1048576 : Int) < (n : Int)
  · go_enter Try.func10, Try.ntmps10
    go_wp2
    go_ret
    exact ⟨rfl, (by repeat (first | exact Grow.refl _ | assumption | refine Grow.alloc ?_ _ | refine Grow.drew ?_ | refine Grow.drewN ?_ _ | refine Grow.trans ?_ (by assumption) | refine Grow.below ?_ (by assumption) (by first | exact Nat.le_refl _ | omega)))⟩
  obtain ⟨i0, hi, hz0, hz1, hz2⟩ := info_parts fact_info
  go_enter Try.func10, Try.ntmps10
  go_wp2_with fail
  refine (DrawTermClasses_c A n c _ hA hn hnc).mono ?_
  rintro e w1 ⟨l, A1, c1, hl, rfl, o1, g1⟩
  have F1 := OFacts.facts rfl o1
  have ht := tcl_len l
  go_wp2_with fail
  refine (TermClasses_c _ _ l _ F1 (by omega)).mono ?_
  rintro e w2 ⟨A2, c2, rfl, o2, g2⟩
  have G2 : Grow w w2 := (by repeat (first | exact Grow.refl _ | assumption | refine Grow.alloc ?_ _ | refine Grow.drew ?_ | refine Grow.drewN ?_ _ | refine Grow.trans ?_ (by assumption) | refine Grow.below ?_ (by assumption) (by first | exact Nat.le_refl _ | omega)))
  go_wp2_with fail
  go_loopw [5, 6] (fun v i wr => ∃ k : Nat, k ≤ l.length ∧ i = .int .i64 ((k : Int) - 1) ∧ Grow w2 wr ∧ ∃ (A3 : Option Addr) (c3 : Nat), v = .slice A3 (l.length - k) c3 ∧ wr.ownsRow w2.heap.size 37 3 (.slice A3 (l.length - k) c3) (l.length - k) ((((l.drop k).map Pl.swp).reverse).flatMap fcells)) (fun _ i _ => (intOf i + 1).toNat)
  case atStart => exact ⟨l.length, Nat.le_refl _, rfl, (by repeat (first | exact Grow.refl _ | assumption | refine Grow.alloc ?_ _ | refine Grow.drew ?_ | refine Grow.drewN ?_ _ | refine Grow.trans ?_ (by assumption) | refine Grow.below ?_ (by assumption) (by first | exact Nat.le_refl _ | omega))), some ⟨w2.heap.size, 0, none⟩, 0, by rw [Nat.sub_self], by rw [Nat.sub_self, List.drop_length]; exact own_empty (heap_alloc_new _ _) (Nat.le_refl _)⟩
  case round =>
    obtain ⟨k, hk, rfl, hg, A3, c3, rfl, ho⟩ := hrel
    by_cases hk0 : 0 < k
    · obtain ⟨j, rfl⟩ : ∃ j, k = j + 1 := ⟨k - 1, by omega⟩
      have e1 : (((j + 1 : Nat) : Int) - 1) = (j : Int) := by omega
      have hj : j < l.length := by omega
      have hj0 : (0 : Int) ≤ (j : Int) := by omega
      have hj1 : (j : Int) < (l.length : Int) := by omega
      rw [e1]
      clear e1
      obtain ⟨b, off, rfl, q0, q1, q2⟩ := (F1.grow (g2.trans hg)).at_ hj
      have hsz := hg.le
      have hbl : b < w2.heap.size := by
        obtain ⟨b', off', hA', hc'⟩ := (F1.grow g2) (by rintro rfl; simp at hj)
        injection hA' with hA'
        injection hA' with h1 _ _
        have := World.block_lt_of_cell? w2 _ (hc' j hj).1
        rw [h1]; exact this
      go_wp2_with fail
      go_region_held3 (fun W => W.cell? ⟨b, off + j * 3, none⟩ = some (.bool l[j].e) ∧ W.cell? ⟨b, off + j * 3 + 1, none⟩ = some (.int .i64 l[j].a) ∧ W.cell? ⟨b, off + j * 3 + 2, none⟩ = some (.int .i64 l[j].b))
        (first | go_keep | (go_split_ands; exact ⟨(hb4.cell hbl).trans (by assumption), (hb4.cell hbl).trans (by assumption), (hb4.cell hbl).trans (by assumption)⟩))
        (first
          | (refine step_append_src _ (by rfl) (.tmp 22) (.tmp 39) 25 (by rfl) w2.heap.size 37 i0 _ 3 24 Try.underlying25 hi hz0 hz1 hz2 rfl (by omega) _ (l.length - (j + 1)) ((((l.drop (j + 1)).map Pl.swp).reverse).flatMap fcells) (by rfl) (own_grow ho (by repeat (first | exact Grow.refl _ | assumption | refine Grow.alloc ?_ _ | refine Grow.drew ?_ | refine Grow.drewN ?_ _ | refine Grow.trans ?_ (by assumption) | refine Grow.below ?_ (by assumption) (by first | exact Nat.le_refl _ | omega)))) _ 1 1 (fcells (Pl.swp l[j])) (by rfl) (by rfl) (Cells.block (heap_alloc_new _ _)) (fcells_one (Pl.swp l[j])) (by unfold maxLen; omega) (by omega) (by simp; omega) (l.length - j) (by omega) ((((l.drop j).map Pl.swp).reverse).flatMap fcells) (by rw [back_step l j hj, List.flatMap_append]; simp) ?_; intro A4 c4 w4 ho4 hgr4 hat4 hb4))
      go_wp2
      go_roundw
      case rel => exact ⟨j, by omega, by rfl, (by repeat (first | exact Grow.refl _ | assumption | refine Grow.alloc ?_ _ | refine Grow.drew ?_ | refine Grow.drewN ?_ _ | refine Grow.trans ?_ (by assumption) | refine Grow.below ?_ (by assumption) (by first | exact Nat.le_refl _ | omega))), A4, c4, rfl, ho4⟩
      case measure => simp [intOf]
    · have hk1 : k = 0 := by omega
      subst hk1
      have e1 : (((0 : Nat) : Int) - 1) = -1 := by omega
      rw [e1]
      clear e1
      have F3 : Facts wr A3 (l.map Pl.swp).reverse := OFacts.facts (n := l.length - 0) (c := c3) (lo := w2.heap.size) (by simp) (by
        show World.ownsRow _ _ _ _ _ ((l.map Pl.swp).reverse).length _
        rw [List.length_reverse, List.length_map]; exact ho)
      have hb := Lib.hid (tcl_back l)
      have hcb := Lib.hid (Pl.fcon_back l)
      have hlb : ((l.map Pl.swp).reverse).length = l.length := by simp
      clear ho
      go_wp2_with fail
      refine (sTermClasses_c _ _ l _ (F1.grow (by repeat (first | exact Grow.refl _ | assumption | refine Grow.alloc ?_ _ | refine Grow.drew ?_ | refine Grow.drewN ?_ _ | refine Grow.trans ?_ (by assumption) | refine Grow.below ?_ (by assumption) (by first | exact Nat.le_refl _ | omega)))) (by omega)).mono ?_
      rintro e w5 ⟨A5, c5, rfl, o5, g5⟩
      have hl3 : (l.map Pl.swp).reverse.length = l.length := hlb
      go_wp2_with fail
      refine (slInts_c _ _ _ _ (tcl l) (tcl l) _ ((OInts.ints rfl o2).grow (by repeat (first | exact Grow.refl _ | assumption | refine Grow.alloc ?_ _ | refine Grow.drew ?_ | refine Grow.drewN ?_ _ | refine Grow.trans ?_ (by assumption) | refine Grow.below ?_ (by assumption) (by first | exact Nat.le_refl _ | omega)))) (OInts.ints rfl o5) (by omega) (by omega)).mono ?_
      rintro e w6 ⟨rfl, g6⟩
      go_wp2_with fail
      have hc7 := TermClasses_c A3 c3 (l.map Pl.swp).reverse w6 (F3.grow (by repeat (first | exact Grow.refl _ | assumption | refine Grow.alloc ?_ _ | refine Grow.drew ?_ | refine Grow.drewN ?_ _ | refine Grow.trans ?_ (by assumption) | refine Grow.below ?_ (by assumption) (by first | exact Nat.le_refl _ | omega)))) (by omega)
      rw [hb.out, hlb] at hc7
      refine hc7.mono ?_
      rintro e w7 ⟨A7, c7, rfl, o7, g7⟩
      clear hc7
      go_wp2_with fail
      refine (slInts_c _ _ _ _ (tcl l) (tcl l) _ (OInts.ints rfl o7) ((OInts.ints rfl o2).grow (by repeat (first | exact Grow.refl _ | assumption | refine Grow.alloc ?_ _ | refine Grow.drew ?_ | refine Grow.drewN ?_ _ | refine Grow.trans ?_ (by assumption) | refine Grow.below ?_ (by assumption) (by first | exact Nat.le_refl _ | omega)))) (by omega) (by omega)).mono ?_
      rintro e w8 ⟨rfl, g8⟩
      go_wp2_with fail
      have hc9 := FactsConsistent_c A3 c3 (l.map Pl.swp).reverse w8 (F3.grow (by repeat (first | exact Grow.refl _ | assumption | refine Grow.alloc ?_ _ | refine Grow.drew ?_ | refine Grow.drewN ?_ _ | refine Grow.trans ?_ (by assumption) | refine Grow.below ?_ (by assumption) (by first | exact Nat.le_refl _ | omega)))) (by omega)
      rw [hcb.out, hlb] at hc9
      refine hc9.mono ?_
      rintro e w9 ⟨rfl, g9⟩
      clear hc9
      go_wp2_with fail
      refine (FactsConsistent_c _ _ l _ (F1.grow (by repeat (first | exact Grow.refl _ | assumption | refine Grow.alloc ?_ _ | refine Grow.drew ?_ | refine Grow.drewN ?_ _ | refine Grow.trans ?_ (by assumption) | refine Grow.below ?_ (by assumption) (by first | exact Nat.le_refl _ | omega)))) (by omega)).mono ?_
      rintro e w10 ⟨rfl, g10⟩
      go_wp2_with fail
      go_ret
      exact ⟨by simp, (by repeat (first | exact Grow.refl _ | assumption | refine Grow.alloc ?_ _ | refine Grow.drew ?_ | refine Grow.drewN ?_ _ | refine Grow.trans ?_ (by assumption) | refine Grow.below ?_ (by assumption) (by first | exact Nat.le_refl _ | omega)))⟩

set_option maxRecDepth 100000 in
theorem lifted (os : Os) (started : os.Started) (H : Type) (enc : TypeId × Value → H) :
    ReturnsInHanded {} Try.checked os 10 .any (Rows.fnFactsOrderSpec.pre6 enc Try.prog Try.f10 Rows.fnFactsOrderRow.domain false) (Rows.fnFactsOrderSpec.post enc Try.prog Try.f10 false true false false) := by
  refine returnsInHanded_of_change (C := Try.checked) own_knob started (by kernel_rfl) Try.func10
    (ChangeSpec.witness6 (enc := enc) (C := Try.checked) false ⟨#[], #[.slice none 0 0], []⟩ 8 (by kernel_rfl) (by kernel_rfl) (by kernel_rfl) (by kernel_rfl)) ?_
  intro W base args ds gs before hval0 hW hcnd _
  have hval : ∀ (j : Nat) t v, Try.f10.params[j]? = some t → args[j]? = some v → Value.okWide Try.prog W .any base t v := hval0
  have hW' := hW
  obtain ⟨p, q, hA0, hV, rfl, hfz, hnd⟩ := hW
  have hA : DataW.TrodAll enc Try.prog W 0 (fun _ => true) true Try.f10.params.toList args.toList ds p := hA0
  rw [Try.params10] at hA hval
  obtain ⟨v0, vs0, d0, ds0, p0, q0, hargs, rfl, rfl, h0, r0⟩ := trodAll_cons hA
  obtain ⟨rfl, rfl, rfl⟩ := trodAll_nil r0
  obtain rfl : args = #[v0] := by cases args; simp_all
  obtain ⟨rfl, rfl⟩ := trodVars_none hV
  have k0 := h0
  have lt0 : ∀ x ∈ p0, x.block < W.heap.size := by obtain ⟨m, hm⟩ := k0; exact DataW.trod_lt m _ _ _ hm
  obtain ⟨a0, len0, cap0, rfl⟩ := okWide_slice Try.underlying43 (hval 0 43 v0 rfl rfl)
  obtain ⟨hb0, w0, hc0⟩ : len0 ≤ 9223372036854775807 ∧ Bytes W a0 len0 ∧ len0 ≤ cap0 := by
    obtain ⟨fuel, hf⟩ := h0
    exact open_bytesL (by simpa [Value.cells] using hf)
  clear hA0 hval0
  refine (walk a0 cap0 len0 W w0 hb0 hc0).mono fun e W' ⟨he, bel⟩ => ?_
  subst he
  exact ⟨_, rfl, _, _, _, [], _, [], hW', trodAll_mk1 (shut_bool Try.underlying4 _), (trodAll_cons_mk (Below.trod laid_out (by kernel_rfl) (of_decide_eq_true (by kernel_rfl)) k0 bel lt0) trodAll_mk0), rfl, bel.frame _, fun h => by cases h⟩

theorem over : Rows.fnFactsOrderRow.holds Try.pinned (OpenSpec.ofChange Rows.fnFactsOrderSpec) :=
  OpenClaim.holds_of_wide 10 Try.f10 rfl rfl rfl rfl rfl rfl rfl ⟨rfl, rfl, rfl, rfl, rfl⟩ rfl rfl rfl rfl rfl (by kernel_rfl) Try.func10 (by kernel_rfl)
    (of_decide_eq_true (by kernel_rfl)) (by unfold Func.isWrapper; first | (rw [if_pos (by decide +kernel)]; kernel_rfl) | (rw [if_neg (by decide +kernel)]; exact ⟨rfl, rfl⟩))
    (fun os started H enc _ => lifted os started H enc)

/-- The statement. -/
theorem proved : Rows.FnFactsOrderSaid := over
#print axioms proved

end Go.Proofs.Ytcpkmnlhenbnlaa.lawFnFactsOrder
