/- A state as text, in the program. Condition: the table of names stands; the lengths are far from Go's bounds. -/
import Derived.Test.YtifdefkkofngoaaDoorFt
import Derived.Test.YtifdefkkofngoaaDoorSt3
import Derived.Test.YtifdefkkofngoaaDoorPlainAll
namespace Go.Proofs.YtifdefkkofngoaaDoor
open Go.RowKit
set_option linter.unusedVariables false

theorem Itoa_c (n : Int) (h0 : 0 ≤ n) (h8 : n ≤ 8) (w : World) : Calls Tryd.prog 42 #[.int .i64 n] w fun e w' => e = .returned (.string (Pl.str (Pl.dg n))) ∧ w = w' := by
  obtain ⟨k, rfl⟩ := Int.eq_ofNat_of_zero_le h0
  refine (Tryd.strconv_Itoa_small k (by omega) w).mono ?_
  rintro e w' ⟨rfl, rfl⟩
  exact ⟨by rw [Pl.decD (by omega)]; rfl, rfl⟩
theorem nm_succ {k : Nat} (hk : k < 8) : Pl.nm ((k : Int) + 1) = Pl.nmN (k + 1) := Pl.nm_nat (t := k + 1) (by omega)


set_option maxRecDepth 100000 in
set_option maxHeartbeats 3200000 in
theorem FormatState_c (A B : Option Addr) (c d : Nat) (s : Pl.St) (w : World) (hS : Sts w A B s) (h1 : s.v.length ≤ 4194304) (h2 : s.h.length ≤ 4194304) (hT : TabN w) :
    Calls Tryd.prog 12 #[sval A B c d s] w fun e w' => e = .returned (.string (Pl.str (Pl.fmtS s))) ∧ Grow w w' := by
  obtain ⟨i0, hi, hz0, hz1, hz2⟩ := info_parts string_info
  obtain ⟨v, h⟩ := s
  cases hv : Pl.stv ⟨v, h⟩ with
  | false =>
    have HV := Lib.hid (Pl.fmtS_no hv)
    have CV := Lib.hid (show ∀ W, Sts W A B ⟨v, h⟩ → Calls Tryd.prog 19 #[.agg #[.slice A v.length c, .slice B h.length d]] W fun e w' => e = .returned (.bool false) ∧ Grow W w' from fun W k => by rw [← hv]; exact StateValid_c A B c d ⟨v, h⟩ W k h1 h2)
    show Calls Tryd.prog 12 #[.agg #[.slice A v.length c, .slice B h.length d]] w _
    clear hv
    go_enter Tryd.func12, Tryd.ntmps12
    go_wp2_with fail
    refine (CV.out _ (hS.grow (by repeat (first | exact Grow.refl _ | assumption | refine Grow.alloc ?_ _ | refine Grow.drew ?_ | refine Grow.drewN ?_ _ | refine Grow.trans ?_ (by assumption) | refine Grow.below ?_ (by assumption) (by first | exact Nat.le_refl _ | omega))))).mono ?_
    rintro e w1 ⟨rfl, g1⟩
    go_wp2_with fail
    go_ret
    exact ⟨by rw [HV.out]; rfl, (by repeat (first | exact Grow.refl _ | assumption | refine Grow.alloc ?_ _ | refine Grow.drew ?_ | refine Grow.drewN ?_ _ | refine Grow.trans ?_ (by assumption) | refine Grow.below ?_ (by assumption) (by first | exact Nat.le_refl _ | omega)))⟩
  | true =>
    have HV := Lib.hid (Pl.fmtS_yes hv)
    have CV := Lib.hid (show ∀ W, Sts W A B ⟨v, h⟩ → Calls Tryd.prog 19 #[.agg #[.slice A v.length c, .slice B h.length d]] W fun e w' => e = .returned (.bool true) ∧ Grow W w' from fun W k => by rw [← hv]; exact StateValid_c A B c d ⟨v, h⟩ W k h1 h2)
    show Calls Tryd.prog 12 #[.agg #[.slice A v.length c, .slice B h.length d]] w _
    have v8 : v.length ≤ 8 := Nat.le_of_eq (Pl.stv_v hv)
    have h8 : h.length ≤ 8 := Nat.le_of_eq (Pl.stv_h hv)
    have HVl := Lib.hid (show ∀ n ∈ v, 0 ≤ n ∧ n ≤ 8 from Pl.stv_vals hv)
    have HCl := Lib.hid (show ∀ n ∈ h, -1 ≤ n ∧ n ≤ 8 from Pl.stv_cells hv)
    have HLen := Lib.hid (Pl.txS_len hv)
    have HPn := Lib.hid (show 0 < (Pl.vParts 0 v ++ Pl.hParts 0 h).length from List.length_pos_iff.2 (Pl.parts_ne hv))
    clear hv h1 h2
    have IA : Ints w A v := hS.v
    have IB : Ints w B h := hS.h
    have y0 := Box2.new w 27 (.slice A v.length c) (.slice B h.length d)
    go_enter Tryd.func12, Tryd.ntmps12
    go_wp2_with fail
    refine (CV.out _ (hS.grow (by repeat (first | exact Grow.refl _ | assumption | refine Grow.alloc ?_ _ | refine Grow.drew ?_ | refine Grow.drewN ?_ _ | refine Grow.trans ?_ (by assumption) | refine Grow.below ?_ (by assumption) (by first | exact Nat.le_refl _ | omega))))).mono ?_
    rintro e w1 ⟨rfl, g1⟩
    replace y0 := y0.grow g1
    have G1 : Grow w w1 := (by repeat (first | exact Grow.refl _ | assumption | refine Grow.alloc ?_ _ | refine Grow.drew ?_ | refine Grow.drewN ?_ _ | refine Grow.trans ?_ (by assumption) | refine Grow.below ?_ (by assumption) (by first | exact Nat.le_refl _ | omega)))
    obtain ⟨k0, k1, _, _⟩ := y0.facts
    clear g1 CV
    go_wp2_with fail
    go_loopw [3, 14] (fun u i wr => ∃ (l : List (List UInt8)) (A : Option Addr) (c : Nat), l.length ≤ v.length ∧ i = .int .i64 l.length ∧ Hid (l = Pl.vParts 0 (v.take l.length)) ∧ u = .slice A l.length c ∧ OTexts wr w1.heap.size (.slice A l.length c) l ∧ Grow w1 wr) (fun _ i _ => v.length - (intOf i).toNat)
    case atStart => exact ⟨[], _, _, by simp, rfl, Lib.hid rfl, rfl, onil _ _, Grow.refl _⟩
    case round =>
      obtain ⟨l, A1, c1, hk, rfl, HL, rfl, o1, G⟩ := hrel
      by_cases hlt : l.length < v.length
      · obtain ⟨b, off, rfl, q0⟩ := (IA.grow (G1.trans G)).at_ hlt
        have hr := HVl.out _ (List.getElem_mem hlt)
        obtain ⟨M, hM⟩ : ∃ M, M = Pl.nm ((l.length : Int) + 1) := ⟨_, rfl⟩
        obtain ⟨D, hD⟩ : ∃ D, D = Pl.dg v[l.length] := ⟨_, rfl⟩
        have CT := Lib.hid (show ∀ W, TabN W → Calls Tryd.prog 41 #[.int .i64 ((l.length : Int) + 1)] W fun e w' => e = .returned (.string (Pl.str M)) ∧ W = w' from fun W t => by rw [hM]; exact TermName_c _ W t)
        have CI := Lib.hid (show ∀ W, Calls Tryd.prog 42 #[.int .i64 v[l.length]] W fun e w' => e = .returned (.string (Pl.str D)) ∧ W = w' from fun W => by rw [hD]; exact Itoa_c _ hr.1 hr.2 W)
        obtain ⟨M1, hM1⟩ : ∃ M1, M1 = M ++ [61] := ⟨_, rfl⟩
        obtain ⟨x, hx⟩ : ∃ x, x = M1 ++ D := ⟨_, rfl⟩
        have lM : M.length ≤ 3 := by rw [hM]; exact Pl.nm_len _
        have lD : D.length = 1 := by rw [hD]; rfl
        have lM1 : M1.length = M.length + 1 := by rw [hM1, List.length_append]; rfl
        have z0 : (Pl.str M).size = M.length := Pl.str_size M
        have z1 : (Pl.str M1).size = M1.length := Pl.str_size M1
        have z2 : (Pl.str D).size = D.length := Pl.str_size D
        have e1 : Pl.str M ++ (⟨#[61]⟩ : ByteArray) = Pl.str M1 := by rw [hM1]; exact catC _ _ _ rfl
        have e2 : Pl.str M1 ++ Pl.str D = Pl.str x := by rw [hx]; exact Pl.str_append _ _
        have n1 : ¬ (9223372036854775807 < M.length + 1) := by omega
        have n2 : ¬ (9223372036854775807 < M1.length + D.length) := by omega
        have HX := Lib.hid (show l ++ [x] = Pl.vParts 0 (v.take (l ++ [x]).length) by
          have hl := HL.out
          rw [List.length_append, show l.length + [x].length = l.length + 1 from rfl, Pl.vP_step hlt, ← hl, hx, hM1, hM, hD, nm_succ (by omega)]; rfl)
        have T2 := hT.grow (G1.trans G)
        have hszr := G.le
        clear hM hD hM1 hx hr
        go_wp2_with (first | (go_at_call 41; (with_reducible refine (CT.out _ (T2.grow (by repeat (first | exact Grow.refl _ | assumption | refine Grow.alloc ?_ _ | refine Grow.drew ?_ | refine Grow.drewN ?_ _ | refine Grow.trans ?_ (by assumption) | refine Grow.below ?_ (by assumption) (by first | exact Nat.le_refl _ | omega))))).mono ?_); rintro e x1 ⟨rfl, rfl⟩) | (go_at_call 42; (with_reducible refine (CI.out _).mono ?_); rintro e x2 ⟨rfl, rfl⟩) | (at_builtin; go_must (refine wpList_append_src _ rfl _ _ 57 rfl w1.heap.size 9 i0 _ 1 16 Tryd.underlying57 hi hz0 hz1 hz2 rfl (by omega) _ l.length (tcells l) rfl (own_grow o1 (by repeat (first | exact Grow.refl _ | assumption | refine Grow.alloc ?_ _ | refine Grow.drew ?_ | refine Grow.drewN ?_ _ | refine Grow.trans ?_ (by assumption) | refine Grow.below ?_ (by assumption) (by first | exact Nat.le_refl _ | omega)))) _ 1 1 [.string (Pl.str x)] rfl rfl (Cells.block (heap_alloc_new _ _)) (by intro u hu; rw [List.mem_singleton.1 hu]; rfl) (by unfold maxLen; omega) (by omega) (by simp; omega) (l.length + 1) rfl (tcells (l ++ [x])) (by simp) ?_; intro A3 c3 w3 ho3 _ _ hb3)))
        go_roundw
        case rel => exact ⟨l ++ [x], A3, c3, by simp; omega, by simp, HX, by simp, otexts_snoc ho3, (G.trans (by repeat (first | exact Grow.refl _ | assumption | refine Grow.alloc ?_ _ | refine Grow.drew ?_ | refine Grow.drewN ?_ _ | refine Grow.trans ?_ (by assumption) | refine Grow.below ?_ (by assumption) (by first | exact Nat.le_refl _ | omega)))).below hb3 (Nat.le_refl _)⟩
        case measure => simp [intOf]; omega
      · have HP := Lib.hid (show l = Pl.vParts 0 v ++ Pl.hParts 0 (h.take 0) by have hl := HL.out; rw [take_eq_all hlt] at hl; rw [List.take_zero]; unfold Pl.hParts; rw [List.append_nil]; exact hl)
        have hl8 : l.length ≤ 8 + 0 := by omega
        obtain ⟨k0, k1, _, _⟩ := (y0.grow G).facts
        have o2 := o1
        have G2 := G
        clear HL hk
        go_wp2_with fail
        clear G o1 hlt
        go_loopw [3, 33] (fun u i wr => ∃ (k : Nat) (l : List (List UInt8)) (A : Option Addr) (c : Nat), k ≤ h.length ∧ i = .int .i64 k ∧ Hid (l = Pl.vParts 0 v ++ Pl.hParts 0 (h.take k)) ∧ l.length ≤ 8 + k ∧ u = .slice A l.length c ∧ OTexts wr w1.heap.size (.slice A l.length c) l ∧ Grow w1 wr) (fun _ i _ => h.length - (intOf i).toNat)
        case atStart => exact ⟨0, l, A1, c1, Nat.zero_le _, rfl, HP, hl8, rfl, o2, G2⟩
        case round =>
          clear HP hl8 o2 G2
          obtain ⟨k, l, A1, c1, hk, rfl, HL, hl8, rfl, o1, G⟩ := hrel
          by_cases hlt : k < h.length
          · obtain ⟨b, off, rfl, q0⟩ := (IB.grow (G1.trans G)).at_ hlt
            have hr := HCl.out _ (List.getElem_mem hlt)
            by_cases h0 : 0 ≤ h[k]
            · obtain ⟨M, hM⟩ : ∃ M, M = Pl.dg ((k : Int) + 1) := ⟨_, rfl⟩
              obtain ⟨D, hD⟩ : ∃ D, D = Pl.dg h[k] := ⟨_, rfl⟩
              have CT := Lib.hid (show ∀ W, Calls Tryd.prog 42 #[.int .i64 ((k : Int) + 1)] W fun e w' => e = .returned (.string (Pl.str M)) ∧ W = w' from fun W => by rw [hM]; exact Itoa_c _ (by omega) (by omega) W)
              have CI := Lib.hid (show ∀ W, Calls Tryd.prog 42 #[.int .i64 h[k]] W fun e w' => e = .returned (.string (Pl.str D)) ∧ W = w' from fun W => by rw [hD]; exact Itoa_c _ h0 hr.2 W)
              obtain ⟨M1, hM1⟩ : ∃ M1, M1 = M ++ [62] := ⟨_, rfl⟩
              obtain ⟨x, hx⟩ : ∃ x, x = M1 ++ D := ⟨_, rfl⟩
              have lM : M.length = 1 := by rw [hM]; rfl
              have lD : D.length = 1 := by rw [hD]; rfl
              have lM1 : M1.length = M.length + 1 := by rw [hM1, List.length_append]; rfl
              have z0 : (Pl.str M).size = M.length := Pl.str_size M
              have z1 : (Pl.str M1).size = M1.length := Pl.str_size M1
              have z2 : (Pl.str D).size = D.length := Pl.str_size D
              have e1 : Pl.str M ++ (⟨#[62]⟩ : ByteArray) = Pl.str M1 := by rw [hM1]; exact catC _ _ _ rfl
              have e2 : Pl.str M1 ++ Pl.str D = Pl.str x := by rw [hx]; exact Pl.str_append _ _
              have n1 : ¬ (9223372036854775807 < M.length + 1) := by omega
              have n2 : ¬ (9223372036854775807 < M1.length + D.length) := by omega
              have HX := Lib.hid (show l ++ [x] = Pl.vParts 0 v ++ Pl.hParts 0 (h.take (k + 1)) by rw [Pl.hP_yes hlt h0, ← List.append_assoc, ← HL.out, hx, hM1, hM, hD]; rfl)
              have hszr := G.le
              clear hM hD hM1 hx hr
              go_wp2_with (first | (go_at_call 42; (with_reducible refine (CT.out _).mono ?_); rintro e x1 ⟨rfl, rfl⟩) | (go_at_call 42; (with_reducible refine (CI.out _).mono ?_); rintro e x2 ⟨rfl, rfl⟩) | (at_builtin; go_must (refine wpList_append_src _ rfl _ _ 57 rfl w1.heap.size 9 i0 _ 1 16 Tryd.underlying57 hi hz0 hz1 hz2 rfl (by omega) _ l.length (tcells l) rfl (own_grow o1 (by repeat (first | exact Grow.refl _ | assumption | refine Grow.alloc ?_ _ | refine Grow.drew ?_ | refine Grow.drewN ?_ _ | refine Grow.trans ?_ (by assumption) | refine Grow.below ?_ (by assumption) (by first | exact Nat.le_refl _ | omega)))) _ 1 1 [.string (Pl.str x)] rfl rfl (Cells.block (heap_alloc_new _ _)) (by intro u hu; rw [List.mem_singleton.1 hu]; rfl) (by unfold maxLen; omega) (by omega) (by simp; omega) (l.length + 1) rfl (tcells (l ++ [x])) (by simp) ?_; intro A3 c3 w3 ho3 _ _ hb3)))
              go_roundw
              case rel => exact ⟨k + 1, l ++ [x], A3, c3, by omega, by go_num, HX, by simp; omega, by simp, otexts_snoc ho3, (G.trans (by repeat (first | exact Grow.refl _ | assumption | refine Grow.alloc ?_ _ | refine Grow.drew ?_ | refine Grow.drewN ?_ _ | refine Grow.trans ?_ (by assumption) | refine Grow.below ?_ (by assumption) (by first | exact Nat.le_refl _ | omega)))).below hb3 (Nat.le_refl _)⟩
              case measure => simp [intOf]; omega
            · have HX := Lib.hid (show l = Pl.vParts 0 v ++ Pl.hParts 0 (h.take (k + 1)) by rw [Pl.hP_no hlt h0]; exact HL.out)
              go_wp2_with fail
              go_roundw
              case rel => exact ⟨k + 1, l, A1, c1, by omega, by go_num, HX, by omega, rfl, o1, G⟩
              case measure => simp [intOf]; omega
          · have hcap := own_cap o1
            have hl := HL.out
            rw [take_eq_all hlt] at hl
            have ej : Pl.txS ⟨v, h⟩ = Lib.join l [32] := by rw [hl]; rfl
            have hxl := HLen.out
            rw [ej] at hxl
            have hl0 : 0 < l.length := by rw [hl]; exact HPn.out
            have J := Lib.hid (Join_c A1 c1 l [32] ⟨#[32]⟩ rfl wr (OTexts.texts rfl o1) hl0 hcap (by omega) (by omega))
            have HX := Lib.hid ej
            clear ej hl HL hxl hl0
            go_wp2_with fail
            refine J.out.mono ?_
            rintro e w9 ⟨rfl, g9⟩
            go_wp2_with fail
            go_ret
            exact ⟨by rw [HV.out, HX.out]; rfl, (G1.trans G).trans g9⟩

end Go.Proofs.YtifdefkkofngoaaDoor
