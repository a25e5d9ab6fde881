/- A digit as text, in the reference. No conditions. -/
import Derived.Test.YtifdefkkofngoaaDoorFst
import Derived.Laws.IdiomStrings
import Derived.Test.YtifdefkkofngoaaDoorPg
namespace Go.Proofs.YtifdefkkofngoaaDoor
open Go.RowKit
set_option linter.unusedVariables false

theorem dg_byte {n : Int} (h0 : 0 ≤ n) (h8 : n ≤ 8) : (((Pl.dg n)[0]'(by show 0 < 1; omega)).toNat : Int) = 48 + n := by
  obtain ⟨k, rfl⟩ := Int.eq_ofNat_of_zero_le h0
  have he : (UInt8.ofNat (48 + k)).toNat = 48 + k := (show ∀ k : Fin 9, (UInt8.ofNat (48 + k.val)).toNat = 48 + k.val by decide) ⟨k, by omega⟩
  show ((UInt8.ofNat (48 + (k : Int).toNat)).toNat : Int) = _
  rw [Int.toNat_natCast, he]; omega

set_option maxRecDepth 100000 in
set_option maxHeartbeats 1600000 in
theorem l18Dec_c (n : Int) (h0 : 0 ≤ n) (h8 : n ≤ 8) (w : World) : Calls Tryd.prog 39 #[.int .i64 n] w fun e w' => e = .returned (.string (Pl.str (Pl.dg n))) ∧ Grow w w' := by
  have k1 : ¬ n < -9223372036854775807 := by omega
  have k2 : ¬ n < 0 := by omega
  have k3 : ¬ 9 < n := by omega
  go_enter Tryd.func39, Tryd.ntmps39
  go_wp2_with fail
  go_loopw [0, 3] (fun t u wr => t = .int .i64 n ∧ u = .string ⟨#[]⟩ ∧ wr = w) (fun _ _ _ => 0)
  case atStart => exact ⟨rfl, rfl, rfl⟩
  case round =>
    obtain ⟨rfl, rfl, rfl⟩ := hrel
    have hb : (convert 35 9 (.slice (some ⟨wr.heap.size, 0, none⟩) 1 1)).run Tryd.prog (wr.alloc (.cells #[.int .u8 (48 + n)] 5)) = .ok (.string (Pl.str (Pl.dg n))) (wr.alloc (.cells #[.int .u8 (48 + n)] 5)) := run_convert_bytes_back _ _ _ _ ⟨wr.heap.size, 0, none⟩ 1 (Pl.dg n) Tryd.underlying35 Tryd.underlying5 Tryd.underlying9 (fun j hj => by
      obtain rfl : j = 0 := by have : (Pl.dg n).length = 1 := rfl; omega
      show World.cell? _ ⟨wr.heap.size, 0 + 0, none⟩ = _
      rw [dg_byte h0 h8]
      exact news_one wr _ _ 0 _ rfl)
    have hsz : (Pl.str (Pl.dg n)).size = 1 := Pl.str_size _
    have hcat : Pl.str (Pl.dg n) ++ (⟨#[]⟩ : ByteArray) = Pl.str (Pl.dg n) := by rw [show (⟨#[]⟩ : ByteArray) = Pl.str [] from rfl, Pl.str_append, List.append_nil]
    go_wp2_with fail
    go_ret
    exact ⟨by rfl, (by repeat (first | exact Grow.refl _ | assumption | refine Grow.alloc ?_ _ | refine Grow.drew ?_ | refine Grow.drewN ?_ _ | refine Grow.trans ?_ (by assumption) | refine Grow.below ?_ (by assumption) (by first | exact Nat.le_refl _ | omega)))⟩

end Go.Proofs.YtifdefkkofngoaaDoor

/- A state as text, in the reference. Conditions: the lengths are far from Go's bounds. -/
namespace Go.Proofs.YtifdefkkofngoaaDoor
open Go.RowKit
set_option linter.unusedVariables false


set_option maxRecDepth 100000 in
set_option maxHeartbeats 3200000 in
theorem sFormatState_c (A B : Option Addr) (c d : Nat) (s : Pl.St) (w : World) (hS : Sts w A B s) (h1 : s.v.length ≤ 4194304) (h2 : s.h.length ≤ 4194304) :
    Calls Tryd.prog 10 #[sval A B c d s] w fun e w' => e = .returned (.string (Pl.str (Pl.fmtS s))) ∧ Grow w w' := by
  obtain ⟨v, h⟩ := s
  cases hv : Pl.stv ⟨v, h⟩ with
  | false =>
    have HV := Lib.hid (Pl.fmtS_no hv)
    have CV := Lib.hid (show ∀ W, Sts W A B ⟨v, h⟩ → Calls Tryd.prog 20 #[.agg #[.slice A v.length c, .slice B h.length d]] W fun e w' => e = .returned (.bool false) ∧ Grow W w' from fun W k => by rw [← hv]; exact sStateValid_c A B c d ⟨v, h⟩ W k h1 h2)
    show Calls Tryd.prog 10 #[.agg #[.slice A v.length c, .slice B h.length d]] w _
    clear hv
    go_enter Tryd.func10, Tryd.ntmps10
    go_wp2_with fail
    refine (CV.out _ (hS.grow (by repeat (first | exact Grow.refl _ | assumption | refine Grow.alloc ?_ _ | refine Grow.drew ?_ | refine Grow.drewN ?_ _ | refine Grow.trans ?_ (by assumption) | refine Grow.below ?_ (by assumption) (by first | exact Nat.le_refl _ | omega))))).mono ?_
    rintro e w1 ⟨rfl, g1⟩
    go_wp2_with fail
    go_ret
    exact ⟨by rw [HV.out]; rfl, (by repeat (first | exact Grow.refl _ | assumption | refine Grow.alloc ?_ _ | refine Grow.drew ?_ | refine Grow.drewN ?_ _ | refine Grow.trans ?_ (by assumption) | refine Grow.below ?_ (by assumption) (by first | exact Nat.le_refl _ | omega)))⟩
  | true =>
    have HV := Lib.hid (Pl.fmtS_yes hv)
    have CV := Lib.hid (show ∀ W, Sts W A B ⟨v, h⟩ → Calls Tryd.prog 20 #[.agg #[.slice A v.length c, .slice B h.length d]] W fun e w' => e = .returned (.bool true) ∧ Grow W w' from fun W k => by rw [← hv]; exact sStateValid_c A B c d ⟨v, h⟩ W k h1 h2)
    show Calls Tryd.prog 10 #[.agg #[.slice A v.length c, .slice B h.length d]] w _
    have v8 : v.length ≤ 8 := Nat.le_of_eq (Pl.stv_v hv)
    have h8 : h.length ≤ 8 := Nat.le_of_eq (Pl.stv_h hv)
    have HVl := Lib.hid (show ∀ n ∈ v, 0 ≤ n ∧ n ≤ 8 from Pl.stv_vals hv)
    have HCl := Lib.hid (show ∀ n ∈ h, -1 ≤ n ∧ n ≤ 8 from Pl.stv_cells hv)
    have HLen := Lib.hid (Pl.txS_len hv)
    have HSp := Lib.hid (Pl.spc_txS hv)
    clear hv h1 h2
    have IA : Ints w A v := hS.v
    have IB : Ints w B h := hS.h
    have y0 := Box2.new w 27 (.slice A v.length c) (.slice B h.length d)
    go_enter Tryd.func10, Tryd.ntmps10
    go_wp2_with fail
    refine (CV.out _ (hS.grow (by repeat (first | exact Grow.refl _ | assumption | refine Grow.alloc ?_ _ | refine Grow.drew ?_ | refine Grow.drewN ?_ _ | refine Grow.trans ?_ (by assumption) | refine Grow.below ?_ (by assumption) (by first | exact Nat.le_refl _ | omega))))).mono ?_
    rintro e w1 ⟨rfl, g1⟩
    replace y0 := y0.grow g1
    have G1 : Grow w w1 := (by repeat (first | exact Grow.refl _ | assumption | refine Grow.alloc ?_ _ | refine Grow.drew ?_ | refine Grow.drewN ?_ _ | refine Grow.trans ?_ (by assumption) | refine Grow.below ?_ (by assumption) (by first | exact Nat.le_refl _ | omega)))
    clear g1 CV
    go_wp2_with fail
    go_loopw [3, 4] (fun u i wr => ∃ (k : Nat) (T : List UInt8), k ≤ v.length ∧ i = .int .i64 k ∧ u = .string (Pl.str T) ∧ Hid (T = Pl.spc (Pl.vParts 0 (v.take k))) ∧ T.length ≤ 10 * k ∧ Grow w1 wr) (fun _ i _ => v.length - (intOf i).toNat)
    case atStart => exact ⟨0, [], Nat.zero_le _, rfl, rfl, Lib.hid rfl, by simp, Grow.refl _⟩
    case round =>
      obtain ⟨k, T, hk, rfl, rfl, HL, hTl, G⟩ := hrel
      obtain ⟨k0, k1, _, _⟩ := (y0.grow G).facts
      by_cases hlt : k < v.length
      · obtain ⟨b, off, rfl, q0⟩ := (IA.grow (G1.trans G)).at_ hlt
        have hr := HVl.out _ (List.getElem_mem hlt)
        have hk1 : (k : Int) < (v.length : Int) := by omega
        have hk2 : (0 : Int) ≤ (k : Int) := by omega
        have hw : IntKind.i64.wrap ((k : Int) + 1) = (k : Int) + 1 := IntWalk.i64_in _ (by omega)
        obtain ⟨M, hM⟩ : ∃ M, M = Pl.nm ((k : Int) + 1) := ⟨_, rfl⟩
        obtain ⟨D, hD⟩ : ∃ D, D = Pl.dg v[k] := ⟨_, rfl⟩
        have CT := Lib.hid (show ∀ W, Calls Tryd.prog 38 #[.int .i64 ((k : Int) + 1)] W fun e w' => e = .returned (.string (Pl.str M)) ∧ Grow W w' from fun W => by rw [hM]; exact (sTermName_c _ W).mono fun e w' ⟨h1, h2⟩ => ⟨h1, h2 ▸ Grow.refl _⟩)
        have CI := Lib.hid (show ∀ W, Calls Tryd.prog 39 #[.int .i64 v[k]] W fun e w' => e = .returned (.string (Pl.str D)) ∧ Grow W w' from fun W => by rw [hD]; exact l18Dec_c _ hr.1 hr.2 W)
        have lM : M.length ≤ 3 := by rw [hM]; exact Pl.nm_len _
        have lD : D.length = 1 := by rw [hD]; rfl
        obtain ⟨T1, hT1⟩ : ∃ T1, T1 = T ++ M := ⟨_, rfl⟩
        obtain ⟨T2, hT2⟩ : ∃ T2, T2 = T1 ++ [61] := ⟨_, rfl⟩
        obtain ⟨T3, hT3⟩ : ∃ T3, T3 = T2 ++ D := ⟨_, rfl⟩
        obtain ⟨T4, hT4⟩ : ∃ T4, T4 = T3 ++ [32] := ⟨_, rfl⟩
        have e1 : Pl.str T ++ Pl.str M = Pl.str T1 := by rw [hT1]; exact Pl.str_append _ _
        have e2 : Pl.str T1 ++ (⟨#[61]⟩ : ByteArray) = Pl.str T2 := by rw [hT2]; exact catC _ _ _ rfl
        have e3 : Pl.str T2 ++ Pl.str D = Pl.str T3 := by rw [hT3]; exact Pl.str_append _ _
        have e4 : Pl.str T3 ++ (⟨#[32]⟩ : ByteArray) = Pl.str T4 := by rw [hT4]; exact catC _ _ _ rfl
        have l1 : T1.length = T.length + M.length := by rw [hT1, List.length_append]
        have l2 : T2.length = T1.length + 1 := by rw [hT2, List.length_append]; rfl
        have l3 : T3.length = T2.length + D.length := by rw [hT3, List.length_append]
        have l4 : T4.length = T3.length + 1 := by rw [hT4, List.length_append]; rfl
        have z0 : (Pl.str T).size = T.length := Pl.str_size T
        have z1 : (Pl.str T1).size = T1.length := Pl.str_size T1
        have z2 : (Pl.str T2).size = T2.length := Pl.str_size T2
        have z3 : (Pl.str T3).size = T3.length := Pl.str_size T3
        have zM : (Pl.str M).size = M.length := Pl.str_size M
        have zD : (Pl.str D).size = D.length := Pl.str_size D
        have n1 : ¬ (9223372036854775807 < T.length + M.length) := by omega
        have n2 : ¬ (9223372036854775807 < T1.length + 1) := by omega
        have n3 : ¬ (9223372036854775807 < T2.length + D.length) := by omega
        have n4 : ¬ (9223372036854775807 < T3.length + 1) := by omega
        have lt4 : T4.length ≤ T.length + 10 := by omega
        have HX := Lib.hid (show T4 = Pl.spc (Pl.vParts 0 (v.take (k + 1))) by rw [Pl.spc_v hlt, ← HL.out, hT4, hT3, hT2, hT1, hM, hD, nm_succ (by omega)])
        clear hM hD hT1 hT2 hT3 hT4 hr lD l1 l2 l3 l4
        go_wp2_with fail
        have hgg := G
        refine wp_region_held_drew (S := (fun W => W.cell? ⟨w.heap.size, 0, none⟩ = some (.slice (some ⟨b, off, none⟩) v.length c) ∧ W.cell? ⟨b, off + k, none⟩ = some (.int .i64 v[k]) ∧ Grow w1 W)) (by kernel_rfl) ?_ (fun hHeld => ?_)
        · exact ⟨k0, q0, Grow.drew G⟩
        refine pop_take 0 (v := ?_) rfl (by kernel_rfl) (by kernel_rfl) (by kernel_rfl) (fun _ _ _ h => h) (by rfl) (by assumption) ?_ ?_
        rotate_left 1
        · (intro W hSw; (try dsimp only at hSw); go_simp; (try with_reducible rfl))
        (try simp only [Act.put, List.setIfInBounds_toArray, List.set_cons_zero, List.set_cons_succ])
        refine pop_take 1 (v := ?_) rfl (by kernel_rfl) (by kernel_rfl) (by kernel_rfl) (fun _ _ _ h => h) (by rfl) (by assumption) ?_ ?_
        rotate_left 1
        · (intro W hSw; (try dsimp only at hSw); go_simp; (try with_reducible rfl))
        (try simp only [Act.put, List.setIfInBounds_toArray, List.set_cons_zero, List.set_cons_succ])
        refine pop_take 2 (v := ?_) rfl (by kernel_rfl) (by kernel_rfl) (by kernel_rfl) (fun _ _ _ h => h) (by rfl) (by assumption) ?_ ?_
        rotate_left 1
        · (intro W hSw; (try dsimp only at hSw); go_simp; (try with_reducible rfl))
        (try simp only [Act.put, List.setIfInBounds_toArray, List.set_cons_zero, List.set_cons_succ])
        refine pop_take 6 (v := ?_) rfl (by kernel_rfl) (by kernel_rfl) (by kernel_rfl) (fun _ _ _ h => h) (by rfl) (by assumption) ?_ ?_
        rotate_left 1
        · (intro W hSw; (try dsimp only at hSw); go_simp; (try with_reducible rfl))
        (try simp only [Act.put, List.setIfInBounds_toArray, List.set_cons_zero, List.set_cons_succ])
        refine pop_take 7 (v := ?_) rfl (by kernel_rfl) (by kernel_rfl) (by kernel_rfl) (fun _ _ _ h => h) (by rfl) (by assumption) ?_ ?_
        rotate_left 1
        · (intro W hSw; (try dsimp only at hSw); go_simp; (try with_reducible rfl))
        (try simp only [Act.put, List.setIfInBounds_toArray, List.set_cons_zero, List.set_cons_succ])
        refine pop_take 8 (v := ?_) rfl (by kernel_rfl) (by kernel_rfl) (by kernel_rfl) (fun _ _ _ h => h) (by rfl) (by assumption) ?_ ?_
        rotate_left 1
        · (intro W hSw; (try dsimp only at hSw); go_simp; (try with_reducible rfl))
        (try simp only [Act.put, List.setIfInBounds_toArray, List.set_cons_zero, List.set_cons_succ])
        refine pop_take 9 (v := ?_) rfl (by kernel_rfl) (by kernel_rfl) (by kernel_rfl) (fun _ _ _ h => h) (by rfl) (by assumption) ?_ ?_
        rotate_left 1
        · (intro W hSw; (try dsimp only at hSw); go_simp; (try with_reducible rfl))
        (try simp only [Act.put, List.setIfInBounds_toArray, List.set_cons_zero, List.set_cons_succ])
        refine pop_take 10 (v := ?_) rfl (by kernel_rfl) (by kernel_rfl) (by kernel_rfl) (fun _ _ _ h => h) (by rfl) (by assumption) ?_ ?_
        rotate_left 1
        · (intro W hSw; (try dsimp only at hSw); go_simp; (try with_reducible rfl))
        (try simp only [Act.put, List.setIfInBounds_toArray, List.set_cons_zero, List.set_cons_succ])
        refine pop_one 3 (by kernel_rfl) rfl (fun K hK => ?_)
        go_simp
        (go_at_call 38; (with_reducible refine (CT.out _).mono ?_); rintro e x1 ⟨rfl, gM⟩)
        go_wp2_with fail
        refine hK.out _ _ ?_ (fun hHeld => ?_)
        · exact ⟨gM.cell hHeld.1, gM.cell hHeld.2.1, hHeld.2.2.trans gM⟩
        clear hK K
        (try simp only [Act.put, List.setIfInBounds_toArray, List.set_cons_zero, List.set_cons_succ])
        refine pop_take 4 (v := ?_) rfl (by kernel_rfl) (by kernel_rfl) (by kernel_rfl) (fun _ _ _ h => h) (by rfl) (by assumption) ?_ ?_
        rotate_left 1
        · (intro W hSw; (try dsimp only at hSw); go_simp; (try with_reducible rfl))
        (try simp only [Act.put, List.setIfInBounds_toArray, List.set_cons_zero, List.set_cons_succ])
        refine pop_take 5 (v := ?_) rfl (by kernel_rfl) (by kernel_rfl) (by kernel_rfl) (fun _ _ _ h => h) (by rfl) (by assumption) ?_ ?_
        rotate_left 1
        · (intro W hSw; (try dsimp only at hSw); go_simp; (try with_reducible rfl))
        (try simp only [Act.put, List.setIfInBounds_toArray, List.set_cons_zero, List.set_cons_succ])
        refine pop_one 11 (by kernel_rfl) rfl (fun K hK => ?_)
        go_simp
        (go_at_call 39; (with_reducible refine (CI.out _).mono ?_); rintro e x2 ⟨rfl, gD⟩)
        go_wp2_with fail
        refine hK.out _ _ ?_ (fun hHeld => ?_)
        · exact ⟨gD.cell hHeld.1, gD.cell hHeld.2.1, hHeld.2.2.trans gD⟩
        clear hK K
        (try simp only [Act.put, List.setIfInBounds_toArray, List.set_cons_zero, List.set_cons_succ])
        refine pop_take 12 (v := ?_) rfl (by kernel_rfl) (by kernel_rfl) (by kernel_rfl) (fun _ _ _ h => h) (by rfl) (by assumption) ?_ ?_
        rotate_left 1
        · (intro W hSw; (try dsimp only at hSw); go_simp; (try with_reducible rfl))
        (try simp only [Act.put, List.setIfInBounds_toArray, List.set_cons_zero, List.set_cons_succ])
        refine pop_take 13 (v := ?_) rfl (by kernel_rfl) (by kernel_rfl) (by kernel_rfl) (fun _ _ _ h => h) (by rfl) (by assumption) ?_ ?_
        rotate_left 1
        · (intro W hSw; (try dsimp only at hSw); go_simp; (try with_reducible rfl))
        (try simp only [Act.put, List.setIfInBounds_toArray, List.set_cons_zero, List.set_cons_succ])
        refine pop_take 14 (v := ?_) rfl (by kernel_rfl) (by kernel_rfl) (by kernel_rfl) (fun _ _ _ h => h) (by rfl) (by assumption) ?_ ?_
        rotate_left 1
        · (intro W hSw; (try dsimp only at hSw); go_simp; (try with_reducible rfl))
        (try simp only [Act.put, List.setIfInBounds_toArray, List.set_cons_zero, List.set_cons_succ])
        refine wpAnyH_done (by kernel_rfl) ?_ _
        have G9 := hHeld.2.2
        go_wp2_with fail
        go_roundw
        case rel => exact ⟨k + 1, T4, by omega, by go_num, rfl, HX, by omega, G9⟩
        case measure => simp [intOf]; omega
      · have hk1 : ¬ (k : Int) < (v.length : Int) := by omega
        have HP := Lib.hid (show T = Pl.spc (Pl.vParts 0 v ++ Pl.hParts 0 (h.take 0)) by have hl := HL.out; rw [take_eq_all hlt] at hl; rw [List.take_zero]; unfold Pl.hParts; rw [List.append_nil]; exact hl)
        have hl8 : T.length ≤ 80 + 10 * 0 := by omega
        have G2 := G
        clear HL hTl
        go_wp2_with fail
        clear G hk hk1 hlt k0 k1
        go_loopw [3, 5] (fun u i wr => ∃ (k : Nat) (T : List UInt8), k ≤ h.length ∧ i = .int .i64 k ∧ u = .string (Pl.str T) ∧ Hid (T = Pl.spc (Pl.vParts 0 v ++ Pl.hParts 0 (h.take k))) ∧ T.length ≤ 80 + 10 * k ∧ Grow w1 wr) (fun _ i _ => h.length - (intOf i).toNat)
        case atStart => exact ⟨0, T, Nat.zero_le _, rfl, rfl, HP, hl8, G2⟩
        case round =>
          clear HP hl8 G2
          obtain ⟨k, T, hk, rfl, rfl, HL, hTl, G⟩ := hrel
          obtain ⟨k0, k1, _, _⟩ := (y0.grow G).facts
          by_cases hlt : k < h.length
          · obtain ⟨b, off, rfl, q0⟩ := (IB.grow (G1.trans G)).at_ hlt
            have hr := HCl.out _ (List.getElem_mem hlt)
            have hk1 : (k : Int) < (h.length : Int) := by omega
            have hk2 : (0 : Int) ≤ (k : Int) := by omega
            have hw : IntKind.i64.wrap ((k : Int) + 1) = (k : Int) + 1 := IntWalk.i64_in _ (by omega)
            by_cases h0 : 0 ≤ h[k]
            · obtain ⟨M, hM⟩ : ∃ M, M = Pl.dg ((k : Int) + 1) := ⟨_, rfl⟩
              obtain ⟨D, hD⟩ : ∃ D, D = Pl.dg h[k] := ⟨_, rfl⟩
              have CT := Lib.hid (show ∀ W, Calls Tryd.prog 39 #[.int .i64 ((k : Int) + 1)] W fun e w' => e = .returned (.string (Pl.str M)) ∧ Grow W w' from fun W => by rw [hM]; exact l18Dec_c _ (by omega) (by omega) W)
              have CI := Lib.hid (show ∀ W, Calls Tryd.prog 39 #[.int .i64 h[k]] W fun e w' => e = .returned (.string (Pl.str D)) ∧ Grow W w' from fun W => by rw [hD]; exact l18Dec_c _ h0 hr.2 W)
              have lM : M.length = 1 := by rw [hM]; rfl
              have lD : D.length = 1 := by rw [hD]; rfl
              obtain ⟨T1, hT1⟩ : ∃ T1, T1 = T ++ M := ⟨_, rfl⟩
              obtain ⟨T2, hT2⟩ : ∃ T2, T2 = T1 ++ [62] := ⟨_, rfl⟩
              obtain ⟨T3, hT3⟩ : ∃ T3, T3 = T2 ++ D := ⟨_, rfl⟩
              obtain ⟨T4, hT4⟩ : ∃ T4, T4 = T3 ++ [32] := ⟨_, rfl⟩
              have e1 : Pl.str T ++ Pl.str M = Pl.str T1 := by rw [hT1]; exact Pl.str_append _ _
              have e2 : Pl.str T1 ++ (⟨#[62]⟩ : ByteArray) = Pl.str T2 := by rw [hT2]; exact catC _ _ _ rfl
              have e3 : Pl.str T2 ++ Pl.str D = Pl.str T3 := by rw [hT3]; exact Pl.str_append _ _
              have e4 : Pl.str T3 ++ (⟨#[32]⟩ : ByteArray) = Pl.str T4 := by rw [hT4]; exact catC _ _ _ rfl
              have l1 : T1.length = T.length + M.length := by rw [hT1, List.length_append]
              have l2 : T2.length = T1.length + 1 := by rw [hT2, List.length_append]; rfl
              have l3 : T3.length = T2.length + D.length := by rw [hT3, List.length_append]
              have l4 : T4.length = T3.length + 1 := by rw [hT4, List.length_append]; rfl
              have z0 : (Pl.str T).size = T.length := Pl.str_size T
              have z1 : (Pl.str T1).size = T1.length := Pl.str_size T1
              have z2 : (Pl.str T2).size = T2.length := Pl.str_size T2
              have z3 : (Pl.str T3).size = T3.length := Pl.str_size T3
              have zM : (Pl.str M).size = M.length := Pl.str_size M
              have zD : (Pl.str D).size = D.length := Pl.str_size D
              have n1 : ¬ (9223372036854775807 < T.length + M.length) := by omega
              have n2 : ¬ (9223372036854775807 < T1.length + 1) := by omega
              have n3 : ¬ (9223372036854775807 < T2.length + D.length) := by omega
              have n4 : ¬ (9223372036854775807 < T3.length + 1) := by omega
              have lt4 : T4.length ≤ T.length + 10 := by omega
              have HX := Lib.hid (show T4 = Pl.spc (Pl.vParts 0 v ++ Pl.hParts 0 (h.take (k + 1))) by rw [Pl.spc_h hlt h0, ← HL.out, hT4, hT3, hT2, hT1, hM, hD])
              clear hM hD hT1 hT2 hT3 hT4 hr lD l1 l2 l3 l4 lM
              go_wp2_with fail
              have hgg := G
              refine wp_region_held_drew (S := (fun W => W.cell? ⟨w.heap.size, 1, none⟩ = some (.slice (some ⟨b, off, none⟩) h.length d) ∧ W.cell? ⟨b, off + k, none⟩ = some (.int .i64 h[k]) ∧ Grow w1 W)) (by kernel_rfl) ?_ (fun hHeld => ?_)
              · exact ⟨k1, q0, Grow.drew G⟩
              refine pop_take 0 (v := ?_) rfl (by kernel_rfl) (by kernel_rfl) (by kernel_rfl) (fun _ _ _ h => h) (by rfl) (by assumption) ?_ ?_
              rotate_left 1
              · (intro W hSw; (try dsimp only at hSw); go_simp; (try with_reducible rfl))
              (try simp only [Act.put, List.setIfInBounds_toArray, List.set_cons_zero, List.set_cons_succ])
              refine pop_take 1 (v := ?_) rfl (by kernel_rfl) (by kernel_rfl) (by kernel_rfl) (fun _ _ _ h => h) (by rfl) (by assumption) ?_ ?_
              rotate_left 1
              · (intro W hSw; (try dsimp only at hSw); go_simp; (try with_reducible rfl))
              (try simp only [Act.put, List.setIfInBounds_toArray, List.set_cons_zero, List.set_cons_succ])
              refine pop_take 2 (v := ?_) rfl (by kernel_rfl) (by kernel_rfl) (by kernel_rfl) (fun _ _ _ h => h) (by rfl) (by assumption) ?_ ?_
              rotate_left 1
              · (intro W hSw; (try dsimp only at hSw); go_simp; (try with_reducible rfl))
              (try simp only [Act.put, List.setIfInBounds_toArray, List.set_cons_zero, List.set_cons_succ])
              refine pop_take 6 (v := ?_) rfl (by kernel_rfl) (by kernel_rfl) (by kernel_rfl) (fun _ _ _ h => h) (by rfl) (by assumption) ?_ ?_
              rotate_left 1
              · (intro W hSw; (try dsimp only at hSw); go_simp; (try with_reducible rfl))
              (try simp only [Act.put, List.setIfInBounds_toArray, List.set_cons_zero, List.set_cons_succ])
              refine pop_take 7 (v := ?_) rfl (by kernel_rfl) (by kernel_rfl) (by kernel_rfl) (fun _ _ _ h => h) (by rfl) (by assumption) ?_ ?_
              rotate_left 1
              · (intro W hSw; (try dsimp only at hSw); go_simp; (try with_reducible rfl))
              (try simp only [Act.put, List.setIfInBounds_toArray, List.set_cons_zero, List.set_cons_succ])
              refine pop_take 8 (v := ?_) rfl (by kernel_rfl) (by kernel_rfl) (by kernel_rfl) (fun _ _ _ h => h) (by rfl) (by assumption) ?_ ?_
              rotate_left 1
              · (intro W hSw; (try dsimp only at hSw); go_simp; (try with_reducible rfl))
              (try simp only [Act.put, List.setIfInBounds_toArray, List.set_cons_zero, List.set_cons_succ])
              refine pop_take 9 (v := ?_) rfl (by kernel_rfl) (by kernel_rfl) (by kernel_rfl) (fun _ _ _ h => h) (by rfl) (by assumption) ?_ ?_
              rotate_left 1
              · (intro W hSw; (try dsimp only at hSw); go_simp; (try with_reducible rfl))
              (try simp only [Act.put, List.setIfInBounds_toArray, List.set_cons_zero, List.set_cons_succ])
              refine pop_take 10 (v := ?_) rfl (by kernel_rfl) (by kernel_rfl) (by kernel_rfl) (fun _ _ _ h => h) (by rfl) (by assumption) ?_ ?_
              rotate_left 1
              · (intro W hSw; (try dsimp only at hSw); go_simp; (try with_reducible rfl))
              (try simp only [Act.put, List.setIfInBounds_toArray, List.set_cons_zero, List.set_cons_succ])
              refine pop_one 3 (by kernel_rfl) rfl (fun K hK => ?_)
              go_simp
              (go_at_call 39; (with_reducible refine (CT.out _).mono ?_); rintro e x1 ⟨rfl, gM⟩)
              go_wp2_with fail
              refine hK.out _ _ ?_ (fun hHeld => ?_)
              · exact ⟨gM.cell hHeld.1, gM.cell hHeld.2.1, hHeld.2.2.trans gM⟩
              clear hK K
              (try simp only [Act.put, List.setIfInBounds_toArray, List.set_cons_zero, List.set_cons_succ])
              refine pop_take 4 (v := ?_) rfl (by kernel_rfl) (by kernel_rfl) (by kernel_rfl) (fun _ _ _ h => h) (by rfl) (by assumption) ?_ ?_
              rotate_left 1
              · (intro W hSw; (try dsimp only at hSw); go_simp; (try with_reducible rfl))
              (try simp only [Act.put, List.setIfInBounds_toArray, List.set_cons_zero, List.set_cons_succ])
              refine pop_take 5 (v := ?_) rfl (by kernel_rfl) (by kernel_rfl) (by kernel_rfl) (fun _ _ _ h => h) (by rfl) (by assumption) ?_ ?_
              rotate_left 1
              · (intro W hSw; (try dsimp only at hSw); go_simp; (try with_reducible rfl))
              (try simp only [Act.put, List.setIfInBounds_toArray, List.set_cons_zero, List.set_cons_succ])
              refine pop_one 11 (by kernel_rfl) rfl (fun K hK => ?_)
              go_simp
              (go_at_call 39; (with_reducible refine (CI.out _).mono ?_); rintro e x2 ⟨rfl, gD⟩)
              go_wp2_with fail
              refine hK.out _ _ ?_ (fun hHeld => ?_)
              · exact ⟨gD.cell hHeld.1, gD.cell hHeld.2.1, hHeld.2.2.trans gD⟩
              clear hK K
              (try simp only [Act.put, List.setIfInBounds_toArray, List.set_cons_zero, List.set_cons_succ])
              refine pop_take 12 (v := ?_) rfl (by kernel_rfl) (by kernel_rfl) (by kernel_rfl) (fun _ _ _ h => h) (by rfl) (by assumption) ?_ ?_
              rotate_left 1
              · (intro W hSw; (try dsimp only at hSw); go_simp; (try with_reducible rfl))
              (try simp only [Act.put, List.setIfInBounds_toArray, List.set_cons_zero, List.set_cons_succ])
              refine pop_take 13 (v := ?_) rfl (by kernel_rfl) (by kernel_rfl) (by kernel_rfl) (fun _ _ _ h => h) (by rfl) (by assumption) ?_ ?_
              rotate_left 1
              · (intro W hSw; (try dsimp only at hSw); go_simp; (try with_reducible rfl))
              (try simp only [Act.put, List.setIfInBounds_toArray, List.set_cons_zero, List.set_cons_succ])
              refine pop_take 14 (v := ?_) rfl (by kernel_rfl) (by kernel_rfl) (by kernel_rfl) (fun _ _ _ h => h) (by rfl) (by assumption) ?_ ?_
              rotate_left 1
              · (intro W hSw; (try dsimp only at hSw); go_simp; (try with_reducible rfl))
              (try simp only [Act.put, List.setIfInBounds_toArray, List.set_cons_zero, List.set_cons_succ])
              refine wpAnyH_done (by kernel_rfl) ?_ _
              have G9 := hHeld.2.2
              go_wp2_with fail
              go_roundw
              case rel => exact ⟨k + 1, T4, by omega, by go_num, rfl, HX, by omega, G9⟩
              case measure => simp [intOf]; omega
            · have HX := Lib.hid (show T = Pl.spc (Pl.vParts 0 v ++ Pl.hParts 0 (h.take (k + 1))) by rw [Pl.hP_no hlt h0]; exact HL.out)
              go_wp2_with fail
              go_roundw
              case rel => exact ⟨k + 1, T, by omega, by go_num, rfl, HX, by omega, G⟩
              case measure => simp [intOf]; omega
          · have hk1 : ¬ (k : Int) < (h.length : Int) := by omega
            have hl := HL.out
            rw [take_eq_all hlt] at hl
            obtain ⟨X, hX⟩ : ∃ X, X = Pl.txS ⟨v, h⟩ := ⟨_, rfl⟩
            have hlen : X.length ≤ 70 := by rw [hX]; exact HLen.out
            obtain rfl : T = X ++ [32] := by rw [hl, hX]; exact HSp.out
            have z0 : (Pl.str (X ++ [32])).size = X.length + 1 := by rw [Pl.str_size, List.length_append]; rfl
            have hext : (Pl.str (X ++ [32])).extract 0 X.length = Pl.str X := by rw [str_ext, List.take_left]; rfl
            have HX := Lib.hid hX
            clear hl hX HL hTl
            go_wp2_with fail
            go_ret
            exact ⟨by rw [HV.out, ← HX.out]; rfl, G1.trans G⟩

end Go.Proofs.YtifdefkkofngoaaDoor
