/- Contracts of the names of terms and the texts of facts, in the program and in the reference. The program's names lie in a table of its own: what it holds is a hypothesis. -/
import Derived.Test.YtifdefkkofngoaaDoorValid
import Derived.Test.YtifdefkkofngoaaDoorPlainAll
import Derived.Laws.Concat
namespace Go.Proofs.YtifdefkkofngoaaDoor
open Go.RowKit
set_option linter.unusedVariables false

def Bx3 (w : World) (g E : Nat) (x y z : Value) : Prop := w.heap[g]? = some (.cells #[x, y, z] E (0, 0))
theorem Bx3.new (w : World) (E : Nat) (x y z : Value) : Bx3 (w.alloc (.cells #[x, y, z] E)) w.heap.size E x y z := heap_alloc_new w _
theorem Bx3.grow {w w' : World} {g E : Nat} {x y z : Value} (h : Bx3 w g E x y z) (k : Grow w w') : Bx3 w' g E x y z := k.heap h
theorem Bx3.facts {w : World} {g E : Nat} {x y z : Value} (h : Bx3 w g E x y z) : w.cell? ⟨g, 0, none⟩ = some x ∧ w.cell? ⟨g, 1, none⟩ = some y ∧ w.cell? ⟨g, 2, none⟩ = some z := by
  unfold Bx3 at h
  exact ⟨by rw [cell_of_row w g 0 _ _ (0, 0) h]; rfl, by rw [cell_of_row w g 1 _ _ (0, 0) h]; rfl, by rw [cell_of_row w g 2 _ _ (0, 0) h]; rfl⟩
theorem str_eq (a b : List UInt8) : ((Pl.str a).toList == (Pl.str b).toList) = decide (a = b) := by
  rw [ByteArray.toList_eq, ByteArray.toList_eq, Pl.str_data, Pl.str_data, Bool.eq_iff_iff]
  simp
theorem str_yes {a b : List UInt8} (h : a = b) : ((Pl.str a).toList == (Pl.str b).toList) = true := by rw [str_eq]; exact decide_eq_true h
theorem str_no {a b : List UInt8} (h : ¬ a = b) : ((Pl.str a).toList == (Pl.str b).toList) = false := by rw [str_eq]; exact decide_eq_false h

/-- The program's table holds the names. -/
def TabN (w : World) : Prop := ∀ t : Nat, t ≤ 8 → w.cell? ⟨0, t, none⟩ = some (.string (Pl.str (Pl.nmN t)))
theorem TabN.grow {w w' : World} (h : TabN w) (g : Grow w w') : TabN w' := fun t ht => g.cell (h t ht)

theorem TermName_c (t : Int) (w : World) (hT : TabN w) : Calls Tryd.prog 41 #[.int .i64 t] w fun e w' => e = .returned (.string (Pl.str (Pl.nm t))) ∧ w = w' := by
  cases ht : Pl.tmB t with
  | false =>
    have HT := Lib.hid ht
    have HX := Lib.hid (Pl.nm_bad ht)
    clear ht
    go_enter Tryd.func41, Tryd.ntmps41
    go_wp2_with (go_at_call 86; refine (isTerm_c t _).mono ?_; rintro e w' ⟨rfl, rfl⟩; rw [HT.out])
    go_ret
    exact ⟨by rw [HX.out]; rfl, rfl⟩
  | true =>
    have HT := Lib.hid ht
    obtain ⟨n, rfl, hn⟩ := Pl.tm_of ht
    have HX := Lib.hid (Pl.nm_nat hn)
    have c0 := hT n hn
    have hn2 : (n : Int) < 9 := by omega
    have hn3 : (0 : Int) ≤ (n : Int) := by omega
    clear ht
    go_enter Tryd.func41, Tryd.ntmps41
    go_wp2_with (go_at_call 86; refine (isTerm_c (n : Int) _).mono ?_; rintro e w' ⟨rfl, rfl⟩; rw [HT.out])
    go_ret
    exact ⟨by rw [HX.out]; rfl, rfl⟩

theorem sTermName_c (t : Int) (w : World) : Calls Tryd.prog 38 #[.int .i64 t] w fun e w' => e = .returned (.string (Pl.str (Pl.nm t))) ∧ w = w' := by
  cases ht : Pl.tmB t with
  | false =>
    have HT := Lib.hid ht
    have HX := Lib.hid (Pl.nm_bad ht)
    clear ht
    go_enter Tryd.func38, Tryd.ntmps38
    go_wp2_with (go_at_call 85; refine (l1Is_c t _).mono ?_; rintro e w' ⟨rfl, rfl⟩; rw [HT.out])
    go_ret
    exact ⟨by rw [HX.out]; rfl, rfl⟩
  | true =>
    have htr := (Pl.tmB_iff t).1 ht
    have hc : t = 0 ∨ t = 1 ∨ t = 2 ∨ t = 3 ∨ t = 4 ∨ t = 5 ∨ t = 6 ∨ t = 7 ∨ t = 8 := by omega
    clear htr
    rcases hc with rfl | rfl | rfl | rfl | rfl | rfl | rfl | rfl | rfl
    all_goals
      have HT := Lib.hid ht
      clear ht
      go_enter Tryd.func38, Tryd.ntmps38
      go_wp2_with (go_at_call 85; refine (l1Is_c _ _).mono ?_; rintro e w' ⟨rfl, rfl⟩; rw [HT.out])
      go_ret
      exact ⟨rfl, rfl⟩

theorem ParseTerm_c (s : List UInt8) (w : World) (hT : TabN w) : Calls Tryd.prog 100 #[.string (Pl.str s)] w fun e w' => e = .returned (.tuple #[.int .i64 (Pl.pT s).1, .bool (Pl.pT s).2]) ∧ w = w' := by
  obtain ⟨R, hR⟩ : ∃ R, R = Pl.pT s := ⟨_, rfl⟩
  rw [← hR]
  have HX := Lib.hid (show Pl.pTfrom s 9 0 = R from hR.symm)
  clear hR
  go_enter Tryd.func100, Tryd.ntmps100
  go_wp2_with fail
  go_loopw [4] (fun i wr => ∃ k : Nat, k ≤ 9 ∧ i = .int .i64 k ∧ Hid (Pl.pTfrom s (9 - k) k = R) ∧ wr = w) (fun i _ => 9 - (intOf i).toNat)
  case atStart => exact ⟨0, by omega, rfl, HX, rfl⟩
  case round =>
    obtain ⟨k, hk, rfl, HP, rfl⟩ := hrel
    by_cases hlt : k ≤ 8
    · have hk2 : (k : Int) ≤ 8 := by omega
      have hk4 : (k : Int) < 9 := by omega
      have hk3 : (0 : Int) ≤ (k : Int) := by omega
      have c0 := hT k hlt
      by_cases he : Pl.nmN k = s
      · have HV := Lib.hid (show R = ((k : Int), true) by rw [← HP.out, show 9 - k = (8 - k) + 1 by omega]; exact Pl.pTfrom_hit he)
        have hb : ((Pl.str (Pl.nmN k)).toList == (Pl.str s).toList) = true := str_yes he
        clear he
        go_wp2_with fail
        go_ret2
        exact ⟨by rw [HV.out]; rfl, rfl⟩
      · have HV := Lib.hid (show Pl.pTfrom s (9 - (k + 1)) (k + 1) = R by rw [← HP.out, show 9 - k = (9 - (k + 1)) + 1 by omega]; exact (Pl.pTfrom_next he).symm)
        have hb : ((Pl.str (Pl.nmN k)).toList == (Pl.str s).toList) = false := str_no he
        clear he
        go_wp2_with fail
        go_roundw
        case rel => exact ⟨k + 1, by omega, by go_num, HV, trivial⟩
        case measure => simp [intOf]; omega
    · have hk2 : ¬ (k : Int) ≤ 8 := by omega
      have HV := Lib.hid (show R = (0, false) by rw [← HP.out, show 9 - k = 0 by omega]; rfl)
      go_wp2_with fail
      go_ret2
      exact ⟨by rw [HV.out]; rfl, rfl⟩

theorem sParseTerm_c (s : List UInt8) (w : World) : Calls Tryd.prog 98 #[.string (Pl.str s)] w fun e w' => e = .returned (.tuple #[.int .i64 (Pl.pT s).1, .bool (Pl.pT s).2]) ∧ w = w' := by
  obtain ⟨R, hR⟩ : ∃ R, R = Pl.pT s := ⟨_, rfl⟩
  rw [← hR]
  have HX := Lib.hid (show Pl.pTfrom s 9 0 = R from hR.symm)
  clear hR
  go_enter Tryd.func98, Tryd.ntmps98
  go_wp2_with fail
  go_loopw [4] (fun i wr => ∃ k : Nat, k ≤ 9 ∧ i = .int .i64 k ∧ Hid (Pl.pTfrom s (9 - k) k = R) ∧ wr = w) (fun i _ => 9 - (intOf i).toNat)
  case atStart => exact ⟨0, by omega, rfl, HX, rfl⟩
  case round =>
    obtain ⟨k, hk, rfl, HP, rfl⟩ := hrel
    by_cases hlt : k ≤ 8
    · have hk2 : (k : Int) ≤ 8 := by omega
      by_cases he : Pl.nmN k = s
      · have HV := Lib.hid (show R = ((k : Int), true) by rw [← HP.out, show 9 - k = (8 - k) + 1 by omega]; exact Pl.pTfrom_hit he)
        have hb : ((Pl.str (Pl.nm (k : Int))).toList == (Pl.str s).toList) = true := str_yes ((Pl.nm_nat hlt).trans he)
        clear he
        go_wp2_with (go_at_call 38; refine (sTermName_c (k : Int) _).mono ?_; rintro e w' ⟨rfl, rfl⟩)
        go_ret2
        exact ⟨by rw [HV.out]; rfl, rfl⟩
      · have HV := Lib.hid (show Pl.pTfrom s (9 - (k + 1)) (k + 1) = R by rw [← HP.out, show 9 - k = (9 - (k + 1)) + 1 by omega]; exact (Pl.pTfrom_next he).symm)
        have hb : ((Pl.str (Pl.nm (k : Int))).toList == (Pl.str s).toList) = false := str_no (fun e => he ((Pl.nm_nat hlt).symm.trans e))
        clear he
        go_wp2_with (go_at_call 38; refine (sTermName_c (k : Int) _).mono ?_; rintro e w' ⟨rfl, rfl⟩)
        go_roundw
        case rel => exact ⟨k + 1, by omega, by go_num, HV, trivial⟩
        case measure => simp [intOf]; omega
    · have hk2 : ¬ (k : Int) ≤ 8 := by omega
      have HV := Lib.hid (show R = (0, false) by rw [← HP.out, show 9 - k = 0 by omega]; rfl)
      go_wp2_with fail
      go_ret2
      exact ⟨by rw [HV.out]; rfl, rfl⟩

theorem nm_size {t : Int} (h : Pl.tmB t = true) : (Pl.str (Pl.nm t)).size = 1 ∨ (Pl.str (Pl.nm t)).size = 3 := by
  obtain ⟨n, rfl, hn⟩ := Pl.tm_of h
  rw [Pl.str_size, Pl.nm_nat hn]
  exact (show ∀ a : Fin 9, (Pl.nmN a.val).length = 1 ∨ (Pl.nmN a.val).length = 3 by decide) ⟨n, by omega⟩
theorem txF_t {f : Pl.Fct} (h : f.e = true) : Pl.txF f = Pl.nm f.a ++ [61] ++ Pl.nm f.b := by unfold Pl.txF Pl.sg; rw [h]; rfl
theorem txF_f {f : Pl.Fct} (h : f.e = false) : Pl.txF f = Pl.nm f.a ++ [33, 61] ++ Pl.nm f.b := by unfold Pl.txF Pl.sg; rw [h]; rfl

theorem l1Text_c (f : Pl.Fct) (w : World) (hv : Pl.fv f = true) : Calls Tryd.prog 105 #[fval f] w fun e w' => e = .returned (.string (Pl.str (Pl.txF f))) ∧ Grow w w' := by
  obtain ⟨x, a, b⟩ := f
  have sa := nm_size (Pl.fv_parts hv).1
  have sb := nm_size (Pl.fv_parts hv).2
  cases x with
  | true =>
    have HX := Lib.hid (txF_t (f := ⟨true, a, b⟩) rfl)
    rcases sa with sa | sa <;> rcases sb with sb | sb
    all_goals
      go_enter Tryd.func105, Tryd.ntmps105
      go_wp2_with fail
      go_quiet (first | (go_at_call 38; with_reducible exact qcall (sTermName_c a _)) | (go_at_call 38; with_reducible exact qcall (sTermName_c b _)) | fail)
      go_wp2_with fail
      go_ret
      exact ⟨by rw [HX.out, ← Pl.str_append, ← Pl.str_append]; rfl, (by repeat (first | exact Grow.refl _ | assumption | refine Grow.alloc ?_ _ | refine Grow.drew ?_ | refine Grow.drewN ?_ _ | refine Grow.trans ?_ (by assumption) | refine Grow.below ?_ (by assumption) (by first | exact Nat.le_refl _ | omega)))⟩
  | false =>
    have HX := Lib.hid (txF_f (f := ⟨false, a, b⟩) rfl)
    rcases sa with sa | sa <;> rcases sb with sb | sb
    all_goals
      go_enter Tryd.func105, Tryd.ntmps105
      go_wp2_with fail
      go_quiet (first | (go_at_call 38; with_reducible exact qcall (sTermName_c a _)) | (go_at_call 38; with_reducible exact qcall (sTermName_c b _)) | fail)
      go_wp2_with fail
      go_ret
      exact ⟨by rw [HX.out, ← Pl.str_append, ← Pl.str_append]; rfl, (by repeat (first | exact Grow.refl _ | assumption | refine Grow.alloc ?_ _ | refine Grow.drew ?_ | refine Grow.drewN ?_ _ | refine Grow.trans ?_ (by assumption) | refine Grow.below ?_ (by assumption) (by first | exact Nat.le_refl _ | omega)))⟩

theorem fmtF_no {f : Pl.Fct} (h : Pl.fv f = false) : Pl.fmtF f = [] := by unfold Pl.fmtF; rw [h]; rfl
theorem fmtF_yes {f : Pl.Fct} (h : Pl.fv f = true) : Pl.fmtF f = Pl.txF f := by unfold Pl.fmtF; rw [h]; rfl

theorem FormatFact_c (f : Pl.Fct) (w : World) (hT : TabN w) : Calls Tryd.prog 75 #[fval f] w fun e w' => e = .returned (.string (Pl.str (Pl.fmtF f))) ∧ Grow w w' := by
  obtain ⟨x, a, b⟩ := f
  cases hv : Pl.fv ⟨x, a, b⟩ with
  | false =>
    have HX := Lib.hid (fmtF_no hv)
    go_enter Tryd.func75, Tryd.ntmps75
    go_wp2_with (go_at_call 104; refine (FactValid_c ⟨x, a, b⟩ _).mono ?_; rintro e w' ⟨rfl, g1⟩; rw [hv])
    go_ret
    exact ⟨by rw [HX.out]; rfl, (by repeat (first | exact Grow.refl _ | assumption | refine Grow.alloc ?_ _ | refine Grow.drew ?_ | refine Grow.drewN ?_ _ | refine Grow.trans ?_ (by assumption) | refine Grow.below ?_ (by assumption) (by first | exact Nat.le_refl _ | omega)))⟩
  | true =>
    have y0 := Bx3.new w 78 (.bool x) (.int .i64 a) (.int .i64 b)
    have sa := nm_size (Pl.fv_parts hv).1
    have sb := nm_size (Pl.fv_parts hv).2
    cases x with
    | true =>
      have HX := Lib.hid ((fmtF_yes hv).trans (txF_t (f := ⟨true, a, b⟩) rfl))
      rcases sa with sa | sa <;> rcases sb with sb | sb
      all_goals
        go_enter Tryd.func75, Tryd.ntmps75
        go_wp2_with fail
        refine (FactValid_c ⟨true, a, b⟩ _).mono ?_
        rintro e w1 ⟨rfl, g1⟩
        rw [hv]
        have hT1 := hT.grow (show Grow w w1 from (by repeat (first | exact Grow.refl _ | assumption | refine Grow.alloc ?_ _ | refine Grow.drew ?_ | refine Grow.drewN ?_ _ | refine Grow.trans ?_ (by assumption) | refine Grow.below ?_ (by assumption) (by first | exact Nat.le_refl _ | omega))))
        obtain ⟨k0, k1, k2⟩ := (y0.grow g1).facts
        go_wp2_with fail
        go_quiet (first | (go_at_call 41; with_reducible exact qcall (TermName_c a _ (hT1.grow (by repeat (first | exact Grow.refl _ | assumption | refine Grow.alloc ?_ _ | refine Grow.drew ?_ | refine Grow.drewN ?_ _ | refine Grow.trans ?_ (by assumption) | refine Grow.below ?_ (by assumption) (by first | exact Nat.le_refl _ | omega)))))) | (go_at_call 41; with_reducible exact qcall (TermName_c b _ (hT1.grow (by repeat (first | exact Grow.refl _ | assumption | refine Grow.alloc ?_ _ | refine Grow.drew ?_ | refine Grow.drewN ?_ _ | refine Grow.trans ?_ (by assumption) | refine Grow.below ?_ (by assumption) (by first | exact Nat.le_refl _ | omega)))))) | fail)
        go_wp2_with fail
        go_ret
        exact ⟨by rw [HX.out, ← Pl.str_append, ← Pl.str_append]; rfl, (by repeat (first | exact Grow.refl _ | assumption | refine Grow.alloc ?_ _ | refine Grow.drew ?_ | refine Grow.drewN ?_ _ | refine Grow.trans ?_ (by assumption) | refine Grow.below ?_ (by assumption) (by first | exact Nat.le_refl _ | omega)))⟩
    | false =>
      have HX := Lib.hid ((fmtF_yes hv).trans (txF_f (f := ⟨false, a, b⟩) rfl))
      rcases sa with sa | sa <;> rcases sb with sb | sb
      all_goals
        go_enter Tryd.func75, Tryd.ntmps75
        go_wp2_with fail
        refine (FactValid_c ⟨false, a, b⟩ _).mono ?_
        rintro e w1 ⟨rfl, g1⟩
        rw [hv]
        have hT1 := hT.grow (show Grow w w1 from (by repeat (first | exact Grow.refl _ | assumption | refine Grow.alloc ?_ _ | refine Grow.drew ?_ | refine Grow.drewN ?_ _ | refine Grow.trans ?_ (by assumption) | refine Grow.below ?_ (by assumption) (by first | exact Nat.le_refl _ | omega))))
        obtain ⟨k0, k1, k2⟩ := (y0.grow g1).facts
        go_wp2_with fail
        go_quiet (first | (go_at_call 41; with_reducible exact qcall (TermName_c a _ (hT1.grow (by repeat (first | exact Grow.refl _ | assumption | refine Grow.alloc ?_ _ | refine Grow.drew ?_ | refine Grow.drewN ?_ _ | refine Grow.trans ?_ (by assumption) | refine Grow.below ?_ (by assumption) (by first | exact Nat.le_refl _ | omega)))))) | (go_at_call 41; with_reducible exact qcall (TermName_c b _ (hT1.grow (by repeat (first | exact Grow.refl _ | assumption | refine Grow.alloc ?_ _ | refine Grow.drew ?_ | refine Grow.drewN ?_ _ | refine Grow.trans ?_ (by assumption) | refine Grow.below ?_ (by assumption) (by first | exact Nat.le_refl _ | omega)))))) | fail)
        go_wp2_with fail
        go_ret
        exact ⟨by rw [HX.out, ← Pl.str_append, ← Pl.str_append]; rfl, (by repeat (first | exact Grow.refl _ | assumption | refine Grow.alloc ?_ _ | refine Grow.drew ?_ | refine Grow.drewN ?_ _ | refine Grow.trans ?_ (by assumption) | refine Grow.below ?_ (by assumption) (by first | exact Nat.le_refl _ | omega)))⟩

end Go.Proofs.YtifdefkkofngoaaDoor
