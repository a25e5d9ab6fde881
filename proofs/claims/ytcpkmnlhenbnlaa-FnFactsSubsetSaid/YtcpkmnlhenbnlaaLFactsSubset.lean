/- FnFactsSubset: whatever facts are drawn, a part of consistent facts is consistent. No conditions. -/
import Derived.Test.YtcpkmnlhenbnlaaFactI
import Derived.Test.YtcpkmnlhenbnlaaFactT
import Derived.Test.YtcpkmnlhenbnlaaDrawG
import Derived.Test.YtcpkmnlhenbnlaaRowAid
namespace Go.Proofs.Ytcpkmnlhenbnlaa.lawFnFactsSubset
open Go.ChangeShapes Go.WideShapes Go.ChangeAt Go.RowKit Go.Joins Go.Deep
open Go.ChangeMaps (open_string shut_string)
set_option linter.unusedVariables false

theorem own_cap {w : World} {lo E sz n c : Nat} {A : Option Addr} {xs : List Value} (h : w.ownsRow lo E sz (.slice A n c) n xs) : n ≤ c ∧ (0 < c → ∃ g, A = some ⟨g, 0, none⟩) := by
  rcases h.2 with ⟨hv, rfl⟩ | ⟨g, cap, cur, hv, hb, hgg, hnc, _⟩
  · injection hv with _ _ h3; exact ⟨by omega, fun h => by omega⟩
  · injection hv with h1 _ h3; subst h3; exact ⟨hnc, fun _ => ⟨g, h1⟩⟩
theorem facts_take {w : World} {A : Option Addr} {l : List Pl.Fct} (h : Facts w A l) (k : Nat) : Facts w A (l.take k) := fun hne => by
  obtain ⟨b, off, hA, hc⟩ := h (by rintro rfl; simp at hne)
  exact ⟨b, off, hA, fun i hi => by
    have := hc i (by rw [List.length_take] at hi; omega)
    rw [List.getElem_take]; exact this⟩
theorem facts_drop {w : World} {g : Nat} {l : List Pl.Fct} (h : Facts w (some ⟨g, 0, none⟩) l) (k : Nat) : Facts w (some ⟨g, k * 3, none⟩) (l.drop k) := fun hne => by
  obtain ⟨b, off, hA, hc⟩ := h (by rintro rfl; simp at hne)
  injection hA with hA
  injection hA with h1 h2 _
  subst h1 h2
  refine ⟨g, k * 3, rfl, fun i hi => ?_⟩
  rw [List.length_drop] at hi
  have := hc (k + i) (by omega)
  rw [List.getElem_drop]
  rw [show k * 3 + i * 3 = 0 + (k + i) * 3 from by omega]
  exact this

theorem fc_n {A : Option Addr} {d n : Nat} (l : List Pl.Fct) (w : World) (hn : n = l.length) (hA : Facts w A l) (hl : l.length ≤ 1000) (hc : Pl.fcon l = true) :
    Calls Try.prog 25 #[.slice A n d] w fun e w' => e = .returned (.bool true) ∧ Grow w w' := by
  subst hn
  have h := FactsConsistent_c A d l w hA (by omega)
  rw [hc] at h
  exact h

set_option maxHeartbeats 1600000 in
theorem walk (A : Option Addr) (c n : Nat) (B : Option Addr) (d m : Nat) (w : World) (hA : Bytes w A n) (hn : n ≤ 9223372036854775807) (hnc : n ≤ c) (hB : Bytes w B m) (hm : m ≤ 9223372036854775807) (hmd : m ≤ d) :
    Calls Try.prog 8 #[.slice A n c, .slice B m d] w fun e w' => e = .returned (.bool true) ∧ Grow w w' := by
  by_cases hn20 : (1048576 : Int) < (n : Int)
  · go_enter Try.func8, Try.ntmps8
    go_wp2
    go_ret
    exact ⟨rfl, (by repeat (first | exact Grow.refl _ | assumption | refine Grow.alloc ?_ _ | refine Grow.drew ?_ | refine Grow.drewN ?_ _ | refine Grow.trans ?_ (by assumption) | refine Grow.below ?_ (by assumption) (by first | exact Nat.le_refl _ | omega)))⟩
  by_cases hm20 : (1048576 : Int) < (m : Int)
  · go_enter Try.func8, Try.ntmps8
    go_wp2
    go_ret
    exact ⟨rfl, (by repeat (first | exact Grow.refl _ | assumption | refine Grow.alloc ?_ _ | refine Grow.drew ?_ | refine Grow.drewN ?_ _ | refine Grow.trans ?_ (by assumption) | refine Grow.below ?_ (by assumption) (by first | exact Nat.le_refl _ | omega)))⟩
  go_enter Try.func8, Try.ntmps8
  go_wp2_with fail
  refine (DrawFactsConsistent_c A n c _ hA hn hnc).mono ?_
  rintro e w1 ⟨l, A1, c1, hl, rfl, o1, g1⟩
  cases hc : Pl.fcon l with
  | false =>
    have HC := Lib.hid hc
    clear hc
    go_wp2_with fail
    refine (FactsConsistent_c _ _ l _ (OFacts.facts rfl o1) (by omega)).mono ?_
    rintro e w2 ⟨rfl, g2⟩
    rw [HC.out]
    go_wp2_with fail
    refine (sFactsConsistent_c _ _ l _ ((OFacts.facts rfl o1).grow (by repeat (first | exact Grow.refl _ | assumption | refine Grow.alloc ?_ _ | refine Grow.drew ?_ | refine Grow.drewN ?_ _ | refine Grow.trans ?_ (by assumption) | refine Grow.below ?_ (by assumption) (by first | exact Nat.le_refl _ | omega)))) (by omega)).mono ?_
    rintro e w3 ⟨rfl, g3⟩
    rw [HC.out]
    go_wp2_with fail
    refine (sFactsConsistent_c _ _ l _ ((OFacts.facts rfl o1).grow (by repeat (first | exact Grow.refl _ | assumption | refine Grow.alloc ?_ _ | refine Grow.drew ?_ | refine Grow.drewN ?_ _ | refine Grow.trans ?_ (by assumption) | refine Grow.below ?_ (by assumption) (by first | exact Nat.le_refl _ | omega)))) (by omega)).mono ?_
    rintro e w4 ⟨rfl, g4⟩
    rw [HC.out]
    go_wp2_with fail
    go_ret
    exact ⟨rfl, (by repeat (first | exact Grow.refl _ | assumption | refine Grow.alloc ?_ _ | refine Grow.drew ?_ | refine Grow.drewN ?_ _ | refine Grow.trans ?_ (by assumption) | refine Grow.below ?_ (by assumption) (by first | exact Nat.le_refl _ | omega)))⟩
  | true =>
    have HC := Lib.hid hc
    clear hc
    go_wp2_with fail
    refine (FactsConsistent_c _ _ l _ (OFacts.facts rfl o1) (by omega)).mono ?_
    rintro e w2 ⟨rfl, g2⟩
    rw [HC.out]
    go_wp2_with fail
    refine (sFactsConsistent_c _ _ l _ ((OFacts.facts rfl o1).grow (by repeat (first | exact Grow.refl _ | assumption | refine Grow.alloc ?_ _ | refine Grow.drew ?_ | refine Grow.drewN ?_ _ | refine Grow.trans ?_ (by assumption) | refine Grow.below ?_ (by assumption) (by first | exact Nat.le_refl _ | omega)))) (by omega)).mono ?_
    rintro e w3 ⟨rfl, g3⟩
    rw [HC.out]
    obtain ⟨k, hk⟩ : ∃ k : Nat, k = m % (l.length + 1) := ⟨_, rfl⟩
    have hkl : k ≤ l.length := by have := Nat.mod_lt m (show 0 < l.length + 1 by omega); omega
    have e1 : (m : Int) % ((l.length : Int) + 1) = (k : Int) := by rw [hk, Int.natCast_emod]; rfl
    obtain ⟨hlc, hsome⟩ := own_cap o1
    have hkc : k ≤ c1 := by omega
    have H1 := Lib.hid (Pl.fcon_sub (l := l) (m := l.take k) (by rw [List.length_take]; omega) (fun f hf => List.mem_of_mem_take hf) HC.out)
    have H2 := Lib.hid (Pl.fcon_sub (l := l) (m := l.drop k) (by rw [List.length_drop]; omega) (fun f hf => List.mem_of_mem_drop hf) HC.out)
    clear hk
    by_cases hck : c1 = k
    · have hkk : k = l.length := by omega
      go_wp2_with fail
      refine (fc_n (l.take k) _ (by rw [List.length_take]; omega) (facts_take ((OFacts.facts rfl o1).grow (by repeat (first | exact Grow.refl _ | assumption | refine Grow.alloc ?_ _ | refine Grow.drew ?_ | refine Grow.drewN ?_ _ | refine Grow.trans ?_ (by assumption) | refine Grow.below ?_ (by assumption) (by first | exact Nat.le_refl _ | omega)))) k) (by rw [List.length_take]; omega) H1.out).mono ?_
      rintro e w4 ⟨rfl, g4⟩
      go_wp2_with fail
      refine (fc_n (l.drop k) _ (by rw [List.length_drop]; omega) (by rw [hkk, List.drop_length]; exact Facts.nil _ _) (by rw [List.length_drop]; omega) H2.out).mono ?_
      rintro e w5 ⟨rfl, g5⟩
      go_wp2_with fail
      go_ret
      exact ⟨rfl, (by repeat (first | exact Grow.refl _ | assumption | refine Grow.alloc ?_ _ | refine Grow.drew ?_ | refine Grow.drewN ?_ _ | refine Grow.trans ?_ (by assumption) | refine Grow.below ?_ (by assumption) (by first | exact Nat.le_refl _ | omega)))⟩
    · obtain ⟨g, rfl⟩ := hsome (by omega)
      go_wp2_with fail
      refine (fc_n (l.take k) _ (by rw [List.length_take]; omega) (facts_take ((OFacts.facts rfl o1).grow (by repeat (first | exact Grow.refl _ | assumption | refine Grow.alloc ?_ _ | refine Grow.drew ?_ | refine Grow.drewN ?_ _ | refine Grow.trans ?_ (by assumption) | refine Grow.below ?_ (by assumption) (by first | exact Nat.le_refl _ | omega)))) k) (by rw [List.length_take]; omega) H1.out).mono ?_
      rintro e w4 ⟨rfl, g4⟩
      go_wp2_with fail
      refine (fc_n (l.drop k) _ (by rw [List.length_drop]) (facts_drop ((OFacts.facts rfl o1).grow (by repeat (first | exact Grow.refl _ | assumption | refine Grow.alloc ?_ _ | refine Grow.drew ?_ | refine Grow.drewN ?_ _ | refine Grow.trans ?_ (by assumption) | refine Grow.below ?_ (by assumption) (by first | exact Nat.le_refl _ | omega)))) k) (by rw [List.length_drop]; omega) H2.out).mono ?_
      rintro e w5 ⟨rfl, g5⟩
      go_wp2_with fail
      go_ret
      exact ⟨rfl, (by repeat (first | exact Grow.refl _ | assumption | refine Grow.alloc ?_ _ | refine Grow.drew ?_ | refine Grow.drewN ?_ _ | refine Grow.trans ?_ (by assumption) | refine Grow.below ?_ (by assumption) (by first | exact Nat.le_refl _ | omega)))⟩

set_option maxRecDepth 100000 in
theorem lifted (os : Os) (started : os.Started) (H : Type) (enc : TypeId × Value → H) :
    ReturnsInHanded {} Try.checked os 8 .any (Rows.fnFactsSubsetSpec.pre6 enc Try.prog Try.f8 Rows.fnFactsSubsetRow.domain false) (Rows.fnFactsSubsetSpec.post enc Try.prog Try.f8 false true false false) := by
  refine returnsInHanded_of_change (C := Try.checked) own_knob started (by kernel_rfl) Try.func8
    (ChangeSpec.witness6 (enc := enc) (C := Try.checked) false ⟨#[], #[.slice none 0 0, .slice none 0 0], []⟩ 8 (by kernel_rfl) (by kernel_rfl) (by kernel_rfl) (by kernel_rfl)) ?_
  intro W base args ds gs before hval0 hW hcnd _
  have hval : ∀ (j : Nat) t v, Try.f8.params[j]? = some t → args[j]? = some v → Value.okWide Try.prog W .any base t v := hval0
  have hW' := hW
  obtain ⟨p, q, hA0, hV, rfl, hfz, hnd⟩ := hW
  have hA : DataW.TrodAll enc Try.prog W 0 (fun _ => true) true Try.f8.params.toList args.toList ds p := hA0
  rw [Try.params8] at hA hval
  obtain ⟨v0, vs0, d0, ds0, p0, q0, hargs, rfl, rfl, h0, r0⟩ := trodAll_cons hA
  obtain ⟨v1, vs1, d1, ds1, p1, q1, rfl, rfl, rfl, h1, r1⟩ := trodAll_cons r0
  obtain ⟨rfl, rfl, rfl⟩ := trodAll_nil r1
  obtain rfl : args = #[v0, v1] := by cases args; simp_all
  obtain ⟨rfl, rfl⟩ := trodVars_none hV
  have k0 := h0
  have lt0 : ∀ x ∈ p0, x.block < W.heap.size := by obtain ⟨m, hm⟩ := k0; exact DataW.trod_lt m _ _ _ hm
  obtain ⟨a0, len0, cap0, rfl⟩ := okWide_slice Try.underlying43 (hval 0 43 v0 rfl rfl)
  obtain ⟨hb0, w0, hc0⟩ : len0 ≤ 9223372036854775807 ∧ Bytes W a0 len0 ∧ len0 ≤ cap0 := by
    obtain ⟨fuel, hf⟩ := h0
    exact open_bytesL (by simpa [Value.cells] using hf)
  have k1 := h1
  have lt1 : ∀ x ∈ p1, x.block < W.heap.size := by obtain ⟨m, hm⟩ := k1; exact DataW.trod_lt m _ _ _ hm
  obtain ⟨a1, len1, cap1, rfl⟩ := okWide_slice Try.underlying43 (hval 1 43 v1 rfl rfl)
  obtain ⟨hb1, w1, hc1⟩ : len1 ≤ 9223372036854775807 ∧ Bytes W a1 len1 ∧ len1 ≤ cap1 := by
    obtain ⟨fuel, hf⟩ := h1
    exact open_bytesL (by simpa [Value.cells] using hf)
  clear hA0 hval0
  refine (walk a0 cap0 len0 a1 cap1 len1 W w0 hb0 hc0 w1 hb1 hc1).mono fun e W' ⟨he, bel⟩ => ?_
  subst he
  exact ⟨_, rfl, _, _, _, [], _, [], hW', trodAll_mk1 (shut_bool Try.underlying4 _), (trodAll_cons_mk (Below.trod laid_out (by kernel_rfl) (of_decide_eq_true (by kernel_rfl)) k0 bel lt0) (trodAll_cons_mk (Below.trod laid_out (by kernel_rfl) (of_decide_eq_true (by kernel_rfl)) k1 bel lt1) trodAll_mk0)), rfl, bel.frame _, fun h => by cases h⟩

theorem over : Rows.fnFactsSubsetRow.holds Try.pinned (OpenSpec.ofChange Rows.fnFactsSubsetSpec) :=
  OpenClaim.holds_of_wide 8 Try.f8 rfl rfl rfl rfl rfl rfl rfl ⟨rfl, rfl, rfl, rfl, rfl⟩ rfl rfl rfl rfl rfl (by kernel_rfl) Try.func8 (by kernel_rfl)
    (of_decide_eq_true (by kernel_rfl)) (by unfold Func.isWrapper; first | (rw [if_pos (by decide +kernel)]; kernel_rfl) | (rw [if_neg (by decide +kernel)]; exact ⟨rfl, rfl⟩))
    (fun os started H enc _ => lifted os started H enc)

/-- The statement. -/
theorem proved : Rows.FnFactsSubsetSaid := over
#print axioms proved

end Go.Proofs.Ytcpkmnlhenbnlaa.lawFnFactsSubset
