/- An assertion as text, in the reference. Conditions: the lengths are far from Go's bounds. -/
import Derived.Test.YtifdefkkofngoaaDoorFt
namespace Go.Proofs.YtifdefkkofngoaaDoor
open Go.RowKit
set_option linter.unusedVariables false

theorem join_snoc (sep x : List UInt8) (p : List UInt8) (l : List (List UInt8)) : Lib.join (p :: l ++ [x]) sep = Lib.join (p :: l) sep ++ sep ++ x := by
  rw [List.cons_append, Lib.join_cons, Lib.join_cons]
  simp [Lib.joinTail, List.append_assoc]
def partF (f : List Pl.Fct) (k : Nat) : List UInt8 := Lib.join ((f.take k).map Pl.txF) [32, 38, 32]
theorem partF_one {f : List Pl.Fct} (h : 0 < f.length) : partF f 1 = Pl.txF f[0] := by
  unfold partF
  rw [List.take_succ_eq_append_getElem h]; simp [Lib.join_one]
theorem partF_step {f : List Pl.Fct} {k : Nat} (hk : 0 < k) (h : k < f.length) : partF f (k + 1) = partF f k ++ ([32, 38, 32] : List UInt8) ++ Pl.txF f[k] := by
  unfold partF
  rw [List.take_succ_eq_append_getElem h, List.map_append]
  cases hx : (f.take k).map Pl.txF with
  | nil => have := congrArg List.length hx; rw [List.length_map, List.length_take, List.length_nil] at this; omega
  | cons p l => exact join_snoc _ _ _ _
theorem partF_all {f : List Pl.Fct} {k : Nat} (h : ¬ k < f.length) (h0 : 0 < f.length) : partF f k = Pl.fTx f := by unfold partF; rw [fx_ne h0, take_eq_all h]
def partX (f : List Pl.Fct) (a : List Pl.Atm) (k : Nat) : List UInt8 := if k = 0 then Pl.fTx f else Pl.fTx f ++ ([32, 124, 32] : List UInt8) ++ Lib.join ((a.take k).map Pl.txX) [32, 42, 32]
theorem partX_one {f : List Pl.Fct} {a : List Pl.Atm} (h : 0 < a.length) : partX f a (0 + 1) = partX f a 0 ++ ([32, 124, 32] : List UInt8) ++ Pl.txX a[0] := by
  unfold partX
  rw [if_neg (by omega), if_pos rfl, List.take_succ_eq_append_getElem h]; simp [Lib.join_one]
theorem partX_one' {f : List Pl.Fct} {a : List Pl.Atm} {k : Nat} (hk : k = 0) (h : k < a.length) : partX f a (k + 1) = partX f a k ++ ([32, 124, 32] : List UInt8) ++ Pl.txX a[k] := by
  subst hk; exact partX_one h
theorem partX_step {f : List Pl.Fct} {a : List Pl.Atm} {k : Nat} (hk : 0 < k) (h : k < a.length) : partX f a (k + 1) = partX f a k ++ ([32, 42, 32] : List UInt8) ++ Pl.txX a[k] := by
  unfold partX
  rw [if_neg (by omega), if_neg (by omega), List.take_succ_eq_append_getElem h, List.map_append]
  cases hx : (a.take k).map Pl.txX with
  | nil => have := congrArg List.length hx; rw [List.length_map, List.length_take, List.length_nil] at this; omega
  | cons p l => rw [show [a[k]].map Pl.txX = [Pl.txX a[k]] from rfl, join_snoc]; simp [List.append_assoc]
theorem partX_all {f : List Pl.Fct} {a : List Pl.Atm} {k : Nat} (h : ¬ k < a.length) (h0 : 0 < a.length) : partX f a k = Pl.txA ⟨f, a⟩ := by
  unfold partX; rw [if_neg (by omega)]; unfold Pl.txA; rw [ax_ne h0, take_eq_all h]; rfl
theorem txX_k {x : Pl.Atm} {o : UInt8} (h : Pl.sx x.k = [o]) : Pl.txX x = Pl.nm x.a ++ ([o] : List UInt8) ++ Pl.nm x.b := by unfold Pl.txX; rw [h]


set_option maxRecDepth 100000 in
set_option maxHeartbeats 3200000 in
theorem l3Text_c (A B : Option Addr) (c d : Nat) (f : List Pl.Fct) (a : List Pl.Atm) (w : World) (hS : Asrs w A B ⟨f, a⟩) (hv : Pl.asv ⟨f, a⟩ = true) :
    Calls Tryd.prog 77 #[.agg #[.slice A f.length c, .slice B a.length d]] w fun e w' => e = .returned (.string (Pl.str (Pl.txA ⟨f, a⟩))) ∧ Grow w w' := by
  obtain ⟨e1, e2, e3⟩ := (Pl.asv_iff _).1 hv
  obtain ⟨e4, e5⟩ := (Pl.fsv_iff _).1 e1
  have HF := Lib.hid e5
  have HA := Lib.hid e3
  have h1 : f.length ≤ 12 := e4
  have h2 : a.length ≤ 6 := e2
  clear e1 e2 e3 e4 e5 hv
  have IA : Facts w A f := hS.v
  have IB : Atoms w B a := hS.h
  have y0 := Box2.new w 46 (.slice A f.length c) (.slice B a.length d)
  have G0 : Grow w (w.alloc (.cells #[.slice A f.length c, .slice B a.length d] 46)) := (by repeat (first | exact Grow.refl _ | assumption | refine Grow.alloc ?_ _ | refine Grow.drew ?_ | refine Grow.drewN ?_ _ | refine Grow.trans ?_ (by assumption) | refine Grow.below ?_ (by assumption) (by first | exact Nat.le_refl _ | omega)))
  go_enter Tryd.func77, Tryd.ntmps77
  go_wp2_with fail
  generalize w.alloc (.cells #[.slice A f.length c, .slice B a.length d] 46) = w0 at *
  go_loopw [3, 4] (fun u i wr => ∃ (k : Nat) (T : List UInt8), k ≤ f.length ∧ i = .int .i64 k ∧ u = .string (Pl.str T) ∧ Hid (T = partF f k) ∧ T.length ≤ 11 * k ∧ Grow w0 wr) (fun _ i _ => f.length - (intOf i).toNat)
  case atStart => exact ⟨0, [], by omega, rfl, rfl, Lib.hid rfl, by simp, Grow.refl _⟩
  case round =>
    obtain ⟨k, T, hk, rfl, rfl, HP, hTl, G⟩ := hrel
    obtain ⟨k0, k1, _, _⟩ := (y0.grow G).facts
    have zT : (Pl.str T).size = T.length := Pl.str_size T
    by_cases hlt : k < f.length
    · obtain ⟨b, off, rfl, q0, q1, q2⟩ := (IA.grow (G0.trans G)).at_ hlt
      obtain ⟨x, hx⟩ : ∃ x, x = Pl.txF f[k] := ⟨_, rfl⟩
      have lx : x.length ≤ 8 := by rw [hx]; exact Pl.txF_len _
      have CX := Lib.hid (show ∀ W, Calls Tryd.prog 105 #[fval f[k]] W fun e w' => e = .returned (.string (Pl.str x)) ∧ Grow W w' from fun W => by rw [hx]; exact l1Text_c _ W (HF.out _ (List.getElem_mem hlt)))
      have zx : (Pl.str x).size = x.length := Pl.str_size x
      by_cases hk0 : 0 < k
      · have hk1 : (0 : Int) < (k : Int) := by omega
        obtain ⟨T1, hT1⟩ : ∃ T1, T1 = T ++ [32, 38, 32] := ⟨_, rfl⟩
        obtain ⟨T2, hT2⟩ : ∃ T2, T2 = T1 ++ x := ⟨_, rfl⟩
        have c1 : Pl.str T ++ (⟨#[32, 38, 32]⟩ : ByteArray) = Pl.str T1 := by rw [hT1]; exact catC _ _ _ rfl
        have c2 : Pl.str T1 ++ Pl.str x = Pl.str T2 := by rw [hT2]; exact Pl.str_append _ _
        have z1 : (Pl.str T1).size = T.length + 3 := by rw [Pl.str_size, hT1, List.length_append]; rfl
        have n1 : ¬ (9223372036854775807 < T.length + 3) := by omega
        have n2 : ¬ (9223372036854775807 < T.length + 3 + x.length) := by omega
        have hl2 : T2.length = T.length + 3 + x.length := by rw [hT2, hT1, List.length_append, List.length_append]; rfl
        have HV := Lib.hid (show T2 = partF f (k + 1) by rw [partF_step hk0 hlt, ← HP.out, hT2, hT1, hx])
        clear hT1 hT2 hx
        go_wp2_with fail
        refine (CX.out _).mono ?_
        rintro e w2 ⟨rfl, g2⟩
        go_wp2_with fail
        go_roundw
        case rel => exact ⟨k + 1, T2, by omega, by go_num, rfl, HV, by omega, G.trans g2⟩
        case measure => simp [intOf]; omega
      · have hk1 : ¬ (0 : Int) < (k : Int) := by omega
        have hT0 : T = [] := List.eq_nil_of_length_eq_zero (by omega)
        have HV := Lib.hid (show x = partF f (k + 1) by obtain rfl : k = 0 := (by omega); rw [partF_one hlt, hx])
        subst hT0
        clear hx zT
        have c0 : Pl.str [] ++ Pl.str x = Pl.str x := Pl.str_append _ _
        have z0 : (Pl.str []).size = 0 := rfl
        have n0 : ¬ (9223372036854775807 < x.length) := by omega
        go_wp2_with fail
        refine (CX.out _).mono ?_
        rintro e w2 ⟨rfl, g2⟩
        go_wp2_with fail
        go_roundw
        case rel => exact ⟨k + 1, x, by omega, by go_num, rfl, HV, by omega, G.trans g2⟩
        case measure => simp [intOf]; omega
    · have H1 : Grow w wr := G0.trans G
      replace y0 := y0.grow G
      by_cases hf0 : 0 < f.length
      · have hf1 : ((f.length : Int) == 0) = false := by rw [beq_eq_false_iff_ne]; omega
        have HT := Lib.hid (show T = partX f a 0 by rw [HP.out, partF_all hlt hf0]; rfl)
        have lT : T.length ≤ 132 := by omega
        clear HP hTl hk
        by_cases ha0 : 0 < a.length
        · have ha1 : ((a.length : Int) == 0) = false := by rw [beq_eq_false_iff_ne]; omega
          clear G
          go_wp2_with fail
          go_loopw [3, 5] (fun u i wq => ∃ (k : Nat) (T : List UInt8), k ≤ a.length ∧ i = .int .i64 k ∧ u = .string (Pl.str T) ∧ Hid (T = partX f a k) ∧ T.length ≤ 132 + 10 * k ∧ Grow wr wq) (fun _ i _ => a.length - (intOf i).toNat)
          case atStart => exact ⟨0, T, by omega, rfl, rfl, HT, by omega, Grow.refl _⟩
          case round =>
            rename_i wq
            clear HT lT k0 k1
            obtain ⟨k, T, hk, rfl, rfl, HP, hTl, G⟩ := hrel
            obtain ⟨k0, k1, _, _⟩ := (y0.grow G).facts
            have zT : (Pl.str T).size = T.length := Pl.str_size T
            by_cases hlt : k < a.length
            · obtain ⟨b, off, rfl, q0, q1, q2⟩ := (IB.grow (H1.trans G)).at_ hlt
              obtain ⟨na, hna⟩ : ∃ na, na = Pl.nm a[k].a := ⟨_, rfl⟩
              obtain ⟨nb, hnb⟩ : ∃ nb, nb = Pl.nm a[k].b := ⟨_, rfl⟩
              have la : na.length ≤ 3 := by rw [hna]; exact Pl.nm_len _
              have lb : nb.length ≤ 3 := by rw [hnb]; exact Pl.nm_len _
              have za : (Pl.str na).size = na.length := Pl.str_size na
              have zb : (Pl.str nb).size = nb.length := Pl.str_size nb
              have CA := Lib.hid (show ∀ W, Calls Tryd.prog 38 #[.int .i64 a[k].a] W fun e w' => e = .returned (.string (Pl.str na)) ∧ W = w' from fun W => by rw [hna]; exact sTermName_c _ W)
              have CB := Lib.hid (show ∀ W, Calls Tryd.prog 38 #[.int .i64 a[k].b] W fun e w' => e = .returned (.string (Pl.str nb)) ∧ W = w' from fun W => by rw [hnb]; exact sTermName_c _ W)
              by_cases hk2 : a[k].k = 2
              · have hbk : (a[k].k == 2) = true := by simp [hk2]
                have hsx : Pl.sx a[k].k = [126] := by unfold Pl.sx; rw [if_pos hk2]
                clear hk2
                by_cases hk0 : 0 < k
                · have hk1 : ((k : Int) == 0) = false := by rw [beq_eq_false_iff_ne]; omega
                  obtain ⟨T1, hT1⟩ : ∃ T1, T1 = T ++ [32, 42, 32] := ⟨_, rfl⟩
                  obtain ⟨T2, hT2⟩ : ∃ T2, T2 = T1 ++ na := ⟨_, rfl⟩
                  obtain ⟨T3, hT3⟩ : ∃ T3, T3 = T2 ++ [126] := ⟨_, rfl⟩
                  obtain ⟨T4, hT4⟩ : ∃ T4, T4 = T3 ++ nb := ⟨_, rfl⟩
                  have c1 : Pl.str T ++ (⟨#[32, 42, 32]⟩ : ByteArray) = Pl.str T1 := by rw [hT1]; exact catC _ _ _ rfl
                  have c2 : Pl.str T1 ++ Pl.str na = Pl.str T2 := by rw [hT2]; exact Pl.str_append _ _
                  have c3 : Pl.str T2 ++ (⟨#[126]⟩ : ByteArray) = Pl.str T3 := by rw [hT3]; exact catC _ _ _ rfl
                  have c4 : Pl.str T3 ++ Pl.str nb = Pl.str T4 := by rw [hT4]; exact Pl.str_append _ _
                  have z1 : (Pl.str T1).size = T.length + 3 := by rw [Pl.str_size, hT1, List.length_append]; rfl
                  have z2 : (Pl.str T2).size = T.length + 3 + na.length := by rw [Pl.str_size, hT2, hT1, List.length_append, List.length_append]; rfl
                  have z3 : (Pl.str T3).size = T.length + 3 + na.length + 1 := by rw [Pl.str_size, hT3, hT2, hT1, List.length_append, List.length_append, List.length_append]; rfl
                  have n1 : ¬ (9223372036854775807 < T.length + 3) := by omega
                  have n2 : ¬ (9223372036854775807 < T.length + 3 + na.length) := by omega
                  have n3 : ¬ (9223372036854775807 < T.length + 3 + na.length + 1) := by omega
                  have n4 : ¬ (9223372036854775807 < T.length + 3 + na.length + 1 + nb.length) := by omega
                  have hl4 : T4.length = T.length + 3 + na.length + 1 + nb.length := by rw [hT4, hT3, hT2, hT1, List.length_append, List.length_append, List.length_append, List.length_append]; rfl
                  have HV := Lib.hid (show T4 = partX f a (k + 1) by rw [partX_step hk0 hlt, txX_k hsx, ← HP.out, hT4, hT3, hT2, hT1, hna, hnb]; simp [List.append_assoc])
                  clear hT1 hT2 hT3 hT4 hsx hna hnb
                  go_wp2_with fail
                  go_quiet (first | (go_at_call 38; with_reducible exact qcall (CA.out _)) | (go_at_call 38; with_reducible exact qcall (CB.out _)) | fail)
                  go_wp2_with fail
                  go_roundw
                  case rel => exact ⟨k + 1, T4, by omega, by go_num, rfl, HV, by omega, (by repeat (first | exact Grow.refl _ | assumption | refine Grow.alloc ?_ _ | refine Grow.drew ?_ | refine Grow.drewN ?_ _ | refine Grow.trans ?_ (by assumption) | refine Grow.below ?_ (by assumption) (by first | exact Nat.le_refl _ | omega)))⟩
                  case measure => simp [intOf]; omega
                · have hk1 : ((k : Int) == 0) = true := by rw [beq_iff_eq]; omega
                  obtain ⟨T1, hT1⟩ : ∃ T1, T1 = T ++ [32, 124, 32] := ⟨_, rfl⟩
                  obtain ⟨T2, hT2⟩ : ∃ T2, T2 = T1 ++ na := ⟨_, rfl⟩
                  obtain ⟨T3, hT3⟩ : ∃ T3, T3 = T2 ++ [126] := ⟨_, rfl⟩
                  obtain ⟨T4, hT4⟩ : ∃ T4, T4 = T3 ++ nb := ⟨_, rfl⟩
                  have c1 : Pl.str T ++ (⟨#[32, 124, 32]⟩ : ByteArray) = Pl.str T1 := by rw [hT1]; exact catC _ _ _ rfl
                  have c2 : Pl.str T1 ++ Pl.str na = Pl.str T2 := by rw [hT2]; exact Pl.str_append _ _
                  have c3 : Pl.str T2 ++ (⟨#[126]⟩ : ByteArray) = Pl.str T3 := by rw [hT3]; exact catC _ _ _ rfl
                  have c4 : Pl.str T3 ++ Pl.str nb = Pl.str T4 := by rw [hT4]; exact Pl.str_append _ _
                  have z1 : (Pl.str T1).size = T.length + 3 := by rw [Pl.str_size, hT1, List.length_append]; rfl
                  have z2 : (Pl.str T2).size = T.length + 3 + na.length := by rw [Pl.str_size, hT2, hT1, List.length_append, List.length_append]; rfl
                  have z3 : (Pl.str T3).size = T.length + 3 + na.length + 1 := by rw [Pl.str_size, hT3, hT2, hT1, List.length_append, List.length_append, List.length_append]; rfl
                  have n1 : ¬ (9223372036854775807 < T.length + 3) := by omega
                  have n2 : ¬ (9223372036854775807 < T.length + 3 + na.length) := by omega
                  have n3 : ¬ (9223372036854775807 < T.length + 3 + na.length + 1) := by omega
                  have n4 : ¬ (9223372036854775807 < T.length + 3 + na.length + 1 + nb.length) := by omega
                  have hl4 : T4.length = T.length + 3 + na.length + 1 + nb.length := by rw [hT4, hT3, hT2, hT1, List.length_append, List.length_append, List.length_append, List.length_append]; rfl
                  have HV := Lib.hid (show T4 = partX f a (k + 1) by rw [partX_one' (by omega) hlt, txX_k hsx, ← HP.out, hT4, hT3, hT2, hT1, hna, hnb]; simp [List.append_assoc])
                  clear hT1 hT2 hT3 hT4 hsx hna hnb
                  go_wp2_with fail
                  go_quiet (first | (go_at_call 38; with_reducible exact qcall (CA.out _)) | (go_at_call 38; with_reducible exact qcall (CB.out _)) | fail)
                  go_wp2_with fail
                  go_roundw
                  case rel => exact ⟨k + 1, T4, by omega, by go_num, rfl, HV, by omega, (by repeat (first | exact Grow.refl _ | assumption | refine Grow.alloc ?_ _ | refine Grow.drew ?_ | refine Grow.drewN ?_ _ | refine Grow.trans ?_ (by assumption) | refine Grow.below ?_ (by assumption) (by first | exact Nat.le_refl _ | omega)))⟩
                  case measure => simp [intOf]; omega
              · have hbk : (a[k].k == 2) = false := by simp [hk2]
                have hsx : Pl.sx a[k].k = [62] := by unfold Pl.sx; rw [if_neg hk2]
                clear hk2
                by_cases hk0 : 0 < k
                · have hk1 : ((k : Int) == 0) = false := by rw [beq_eq_false_iff_ne]; omega
                  obtain ⟨T1, hT1⟩ : ∃ T1, T1 = T ++ [32, 42, 32] := ⟨_, rfl⟩
                  obtain ⟨T2, hT2⟩ : ∃ T2, T2 = T1 ++ na := ⟨_, rfl⟩
                  obtain ⟨T3, hT3⟩ : ∃ T3, T3 = T2 ++ [62] := ⟨_, rfl⟩
                  obtain ⟨T4, hT4⟩ : ∃ T4, T4 = T3 ++ nb := ⟨_, rfl⟩
                  have c1 : Pl.str T ++ (⟨#[32, 42, 32]⟩ : ByteArray) = Pl.str T1 := by rw [hT1]; exact catC _ _ _ rfl
                  have c2 : Pl.str T1 ++ Pl.str na = Pl.str T2 := by rw [hT2]; exact Pl.str_append _ _
                  have c3 : Pl.str T2 ++ (⟨#[62]⟩ : ByteArray) = Pl.str T3 := by rw [hT3]; exact catC _ _ _ rfl
                  have c4 : Pl.str T3 ++ Pl.str nb = Pl.str T4 := by rw [hT4]; exact Pl.str_append _ _
                  have z1 : (Pl.str T1).size = T.length + 3 := by rw [Pl.str_size, hT1, List.length_append]; rfl
                  have z2 : (Pl.str T2).size = T.length + 3 + na.length := by rw [Pl.str_size, hT2, hT1, List.length_append, List.length_append]; rfl
                  have z3 : (Pl.str T3).size = T.length + 3 + na.length + 1 := by rw [Pl.str_size, hT3, hT2, hT1, List.length_append, List.length_append, List.length_append]; rfl
                  have n1 : ¬ (9223372036854775807 < T.length + 3) := by omega
                  have n2 : ¬ (9223372036854775807 < T.length + 3 + na.length) := by omega
                  have n3 : ¬ (9223372036854775807 < T.length + 3 + na.length + 1) := by omega
                  have n4 : ¬ (9223372036854775807 < T.length + 3 + na.length + 1 + nb.length) := by omega
                  have hl4 : T4.length = T.length + 3 + na.length + 1 + nb.length := by rw [hT4, hT3, hT2, hT1, List.length_append, List.length_append, List.length_append, List.length_append]; rfl
                  have HV := Lib.hid (show T4 = partX f a (k + 1) by rw [partX_step hk0 hlt, txX_k hsx, ← HP.out, hT4, hT3, hT2, hT1, hna, hnb]; simp [List.append_assoc])
                  clear hT1 hT2 hT3 hT4 hsx hna hnb
                  go_wp2_with fail
                  go_quiet (first | (go_at_call 38; with_reducible exact qcall (CA.out _)) | (go_at_call 38; with_reducible exact qcall (CB.out _)) | fail)
                  go_wp2_with fail
                  go_roundw
                  case rel => exact ⟨k + 1, T4, by omega, by go_num, rfl, HV, by omega, (by repeat (first | exact Grow.refl _ | assumption | refine Grow.alloc ?_ _ | refine Grow.drew ?_ | refine Grow.drewN ?_ _ | refine Grow.trans ?_ (by assumption) | refine Grow.below ?_ (by assumption) (by first | exact Nat.le_refl _ | omega)))⟩
                  case measure => simp [intOf]; omega
                · have hk1 : ((k : Int) == 0) = true := by rw [beq_iff_eq]; omega
                  obtain ⟨T1, hT1⟩ : ∃ T1, T1 = T ++ [32, 124, 32] := ⟨_, rfl⟩
                  obtain ⟨T2, hT2⟩ : ∃ T2, T2 = T1 ++ na := ⟨_, rfl⟩
                  obtain ⟨T3, hT3⟩ : ∃ T3, T3 = T2 ++ [62] := ⟨_, rfl⟩
                  obtain ⟨T4, hT4⟩ : ∃ T4, T4 = T3 ++ nb := ⟨_, rfl⟩
                  have c1 : Pl.str T ++ (⟨#[32, 124, 32]⟩ : ByteArray) = Pl.str T1 := by rw [hT1]; exact catC _ _ _ rfl
                  have c2 : Pl.str T1 ++ Pl.str na = Pl.str T2 := by rw [hT2]; exact Pl.str_append _ _
                  have c3 : Pl.str T2 ++ (⟨#[62]⟩ : ByteArray) = Pl.str T3 := by rw [hT3]; exact catC _ _ _ rfl
                  have c4 : Pl.str T3 ++ Pl.str nb = Pl.str T4 := by rw [hT4]; exact Pl.str_append _ _
                  have z1 : (Pl.str T1).size = T.length + 3 := by rw [Pl.str_size, hT1, List.length_append]; rfl
                  have z2 : (Pl.str T2).size = T.length + 3 + na.length := by rw [Pl.str_size, hT2, hT1, List.length_append, List.length_append]; rfl
                  have z3 : (Pl.str T3).size = T.length + 3 + na.length + 1 := by rw [Pl.str_size, hT3, hT2, hT1, List.length_append, List.length_append, List.length_append]; rfl
                  have n1 : ¬ (9223372036854775807 < T.length + 3) := by omega
                  have n2 : ¬ (9223372036854775807 < T.length + 3 + na.length) := by omega
                  have n3 : ¬ (9223372036854775807 < T.length + 3 + na.length + 1) := by omega
                  have n4 : ¬ (9223372036854775807 < T.length + 3 + na.length + 1 + nb.length) := by omega
                  have hl4 : T4.length = T.length + 3 + na.length + 1 + nb.length := by rw [hT4, hT3, hT2, hT1, List.length_append, List.length_append, List.length_append, List.length_append]; rfl
                  have HV := Lib.hid (show T4 = partX f a (k + 1) by rw [partX_one' (by omega) hlt, txX_k hsx, ← HP.out, hT4, hT3, hT2, hT1, hna, hnb]; simp [List.append_assoc])
                  clear hT1 hT2 hT3 hT4 hsx hna hnb
                  go_wp2_with fail
                  go_quiet (first | (go_at_call 38; with_reducible exact qcall (CA.out _)) | (go_at_call 38; with_reducible exact qcall (CB.out _)) | fail)
                  go_wp2_with fail
                  go_roundw
                  case rel => exact ⟨k + 1, T4, by omega, by go_num, rfl, HV, by omega, (by repeat (first | exact Grow.refl _ | assumption | refine Grow.alloc ?_ _ | refine Grow.drew ?_ | refine Grow.drewN ?_ _ | refine Grow.trans ?_ (by assumption) | refine Grow.below ?_ (by assumption) (by first | exact Nat.le_refl _ | omega)))⟩
                  case measure => simp [intOf]; omega
            · have HX := Lib.hid (show Pl.txA ⟨f, a⟩ = T by rw [HP.out, partX_all hlt ha0])
              go_wp2_with fail
              go_ret
              exact ⟨by rw [HX.out]; rfl, H1.trans G⟩
        · have ha1 : ((a.length : Int) == 0) = true := by rw [beq_iff_eq]; omega
          have HX := Lib.hid (show Pl.txA ⟨f, a⟩ = T ++ [32, 124, 32, 101, 109, 112] by rw [HT.out, show a = [] from List.eq_nil_of_length_eq_zero (by omega)]; simp [Pl.txA, partX, Pl.sepB, Pl.aTx, Pl.tEmp])
          have cE : Pl.str T ++ (⟨#[32, 124, 32, 101, 109, 112]⟩ : ByteArray) = Pl.str (T ++ [32, 124, 32, 101, 109, 112]) := catC _ _ _ rfl
          have nE : ¬ (9223372036854775807 < T.length + 6) := by omega
          go_wp2_with fail
          go_ret
          exact ⟨by rw [HX.out]; rfl, H1⟩
      · have hf1 : ((f.length : Int) == 0) = true := by rw [beq_iff_eq]; omega
        have hf2 : f = [] := List.eq_nil_of_length_eq_zero (by omega)
        by_cases ha0 : 0 < a.length
        · have ha1 : ((a.length : Int) == 0) = false := by rw [beq_eq_false_iff_ne]; omega
          obtain ⟨V, hV⟩ : ∃ V : List UInt8, V = [116, 114, 117, 101] := ⟨_, rfl⟩
          have hlit := Lib.hid (hU_lit hV)
          have HT := Lib.hid (show V = partX f a 0 by rw [hV, hf2]; rfl)
          have lT : V.length ≤ 132 := by rw [hV]; decide
          clear hV hf2 HP hTl hk G zT
          go_wp2_with fail
          rw [hlit.out]
          obtain ⟨T, rfl⟩ : ∃ T, T = V := ⟨_, rfl⟩
          go_loopw [3, 5] (fun u i wq => ∃ (k : Nat) (T : List UInt8), k ≤ a.length ∧ i = .int .i64 k ∧ u = .string (Pl.str T) ∧ Hid (T = partX f a k) ∧ T.length ≤ 132 + 10 * k ∧ Grow wr wq) (fun _ i _ => a.length - (intOf i).toNat)
          case atStart => exact ⟨0, T, by omega, rfl, rfl, HT, by omega, Grow.refl _⟩
          case round =>
            rename_i wq
            clear HT lT k0 k1
            obtain ⟨k, T, hk, rfl, rfl, HP, hTl, G⟩ := hrel
            obtain ⟨k0, k1, _, _⟩ := (y0.grow G).facts
            have zT : (Pl.str T).size = T.length := Pl.str_size T
            by_cases hlt : k < a.length
            · obtain ⟨b, off, rfl, q0, q1, q2⟩ := (IB.grow (H1.trans G)).at_ hlt
              obtain ⟨na, hna⟩ : ∃ na, na = Pl.nm a[k].a := ⟨_, rfl⟩
              obtain ⟨nb, hnb⟩ : ∃ nb, nb = Pl.nm a[k].b := ⟨_, rfl⟩
              have la : na.length ≤ 3 := by rw [hna]; exact Pl.nm_len _
              have lb : nb.length ≤ 3 := by rw [hnb]; exact Pl.nm_len _
              have za : (Pl.str na).size = na.length := Pl.str_size na
              have zb : (Pl.str nb).size = nb.length := Pl.str_size nb
              have CA := Lib.hid (show ∀ W, Calls Tryd.prog 38 #[.int .i64 a[k].a] W fun e w' => e = .returned (.string (Pl.str na)) ∧ W = w' from fun W => by rw [hna]; exact sTermName_c _ W)
              have CB := Lib.hid (show ∀ W, Calls Tryd.prog 38 #[.int .i64 a[k].b] W fun e w' => e = .returned (.string (Pl.str nb)) ∧ W = w' from fun W => by rw [hnb]; exact sTermName_c _ W)
              by_cases hk2 : a[k].k = 2
              · have hbk : (a[k].k == 2) = true := by simp [hk2]
                have hsx : Pl.sx a[k].k = [126] := by unfold Pl.sx; rw [if_pos hk2]
                clear hk2
                by_cases hk0 : 0 < k
                · have hk1 : ((k : Int) == 0) = false := by rw [beq_eq_false_iff_ne]; omega
                  obtain ⟨T1, hT1⟩ : ∃ T1, T1 = T ++ [32, 42, 32] := ⟨_, rfl⟩
                  obtain ⟨T2, hT2⟩ : ∃ T2, T2 = T1 ++ na := ⟨_, rfl⟩
                  obtain ⟨T3, hT3⟩ : ∃ T3, T3 = T2 ++ [126] := ⟨_, rfl⟩
                  obtain ⟨T4, hT4⟩ : ∃ T4, T4 = T3 ++ nb := ⟨_, rfl⟩
                  have c1 : Pl.str T ++ (⟨#[32, 42, 32]⟩ : ByteArray) = Pl.str T1 := by rw [hT1]; exact catC _ _ _ rfl
                  have c2 : Pl.str T1 ++ Pl.str na = Pl.str T2 := by rw [hT2]; exact Pl.str_append _ _
                  have c3 : Pl.str T2 ++ (⟨#[126]⟩ : ByteArray) = Pl.str T3 := by rw [hT3]; exact catC _ _ _ rfl
                  have c4 : Pl.str T3 ++ Pl.str nb = Pl.str T4 := by rw [hT4]; exact Pl.str_append _ _
                  have z1 : (Pl.str T1).size = T.length + 3 := by rw [Pl.str_size, hT1, List.length_append]; rfl
                  have z2 : (Pl.str T2).size = T.length + 3 + na.length := by rw [Pl.str_size, hT2, hT1, List.length_append, List.length_append]; rfl
                  have z3 : (Pl.str T3).size = T.length + 3 + na.length + 1 := by rw [Pl.str_size, hT3, hT2, hT1, List.length_append, List.length_append, List.length_append]; rfl
                  have n1 : ¬ (9223372036854775807 < T.length + 3) := by omega
                  have n2 : ¬ (9223372036854775807 < T.length + 3 + na.length) := by omega
                  have n3 : ¬ (9223372036854775807 < T.length + 3 + na.length + 1) := by omega
                  have n4 : ¬ (9223372036854775807 < T.length + 3 + na.length + 1 + nb.length) := by omega
                  have hl4 : T4.length = T.length + 3 + na.length + 1 + nb.length := by rw [hT4, hT3, hT2, hT1, List.length_append, List.length_append, List.length_append, List.length_append]; rfl
                  have HV := Lib.hid (show T4 = partX f a (k + 1) by rw [partX_step hk0 hlt, txX_k hsx, ← HP.out, hT4, hT3, hT2, hT1, hna, hnb]; simp [List.append_assoc])
                  clear hT1 hT2 hT3 hT4 hsx hna hnb
                  go_wp2_with fail
                  go_quiet (first | (go_at_call 38; with_reducible exact qcall (CA.out _)) | (go_at_call 38; with_reducible exact qcall (CB.out _)) | fail)
                  go_wp2_with fail
                  go_roundw
                  case rel => exact ⟨k + 1, T4, by omega, by go_num, rfl, HV, by omega, (by repeat (first | exact Grow.refl _ | assumption | refine Grow.alloc ?_ _ | refine Grow.drew ?_ | refine Grow.drewN ?_ _ | refine Grow.trans ?_ (by assumption) | refine Grow.below ?_ (by assumption) (by first | exact Nat.le_refl _ | omega)))⟩
                  case measure => simp [intOf]; omega
                · have hk1 : ((k : Int) == 0) = true := by rw [beq_iff_eq]; omega
                  obtain ⟨T1, hT1⟩ : ∃ T1, T1 = T ++ [32, 124, 32] := ⟨_, rfl⟩
                  obtain ⟨T2, hT2⟩ : ∃ T2, T2 = T1 ++ na := ⟨_, rfl⟩
                  obtain ⟨T3, hT3⟩ : ∃ T3, T3 = T2 ++ [126] := ⟨_, rfl⟩
                  obtain ⟨T4, hT4⟩ : ∃ T4, T4 = T3 ++ nb := ⟨_, rfl⟩
                  have c1 : Pl.str T ++ (⟨#[32, 124, 32]⟩ : ByteArray) = Pl.str T1 := by rw [hT1]; exact catC _ _ _ rfl
                  have c2 : Pl.str T1 ++ Pl.str na = Pl.str T2 := by rw [hT2]; exact Pl.str_append _ _
                  have c3 : Pl.str T2 ++ (⟨#[126]⟩ : ByteArray) = Pl.str T3 := by rw [hT3]; exact catC _ _ _ rfl
                  have c4 : Pl.str T3 ++ Pl.str nb = Pl.str T4 := by rw [hT4]; exact Pl.str_append _ _
                  have z1 : (Pl.str T1).size = T.length + 3 := by rw [Pl.str_size, hT1, List.length_append]; rfl
                  have z2 : (Pl.str T2).size = T.length + 3 + na.length := by rw [Pl.str_size, hT2, hT1, List.length_append, List.length_append]; rfl
                  have z3 : (Pl.str T3).size = T.length + 3 + na.length + 1 := by rw [Pl.str_size, hT3, hT2, hT1, List.length_append, List.length_append, List.length_append]; rfl
                  have n1 : ¬ (9223372036854775807 < T.length + 3) := by omega
                  have n2 : ¬ (9223372036854775807 < T.length + 3 + na.length) := by omega
                  have n3 : ¬ (9223372036854775807 < T.length + 3 + na.length + 1) := by omega
                  have n4 : ¬ (9223372036854775807 < T.length + 3 + na.length + 1 + nb.length) := by omega
                  have hl4 : T4.length = T.length + 3 + na.length + 1 + nb.length := by rw [hT4, hT3, hT2, hT1, List.length_append, List.length_append, List.length_append, List.length_append]; rfl
                  have HV := Lib.hid (show T4 = partX f a (k + 1) by rw [partX_one' (by omega) hlt, txX_k hsx, ← HP.out, hT4, hT3, hT2, hT1, hna, hnb]; simp [List.append_assoc])
                  clear hT1 hT2 hT3 hT4 hsx hna hnb
                  go_wp2_with fail
                  go_quiet (first | (go_at_call 38; with_reducible exact qcall (CA.out _)) | (go_at_call 38; with_reducible exact qcall (CB.out _)) | fail)
                  go_wp2_with fail
                  go_roundw
                  case rel => exact ⟨k + 1, T4, by omega, by go_num, rfl, HV, by omega, (by repeat (first | exact Grow.refl _ | assumption | refine Grow.alloc ?_ _ | refine Grow.drew ?_ | refine Grow.drewN ?_ _ | refine Grow.trans ?_ (by assumption) | refine Grow.below ?_ (by assumption) (by first | exact Nat.le_refl _ | omega)))⟩
                  case measure => simp [intOf]; omega
              · have hbk : (a[k].k == 2) = false := by simp [hk2]
                have hsx : Pl.sx a[k].k = [62] := by unfold Pl.sx; rw [if_neg hk2]
                clear hk2
                by_cases hk0 : 0 < k
                · have hk1 : ((k : Int) == 0) = false := by rw [beq_eq_false_iff_ne]; omega
                  obtain ⟨T1, hT1⟩ : ∃ T1, T1 = T ++ [32, 42, 32] := ⟨_, rfl⟩
                  obtain ⟨T2, hT2⟩ : ∃ T2, T2 = T1 ++ na := ⟨_, rfl⟩
                  obtain ⟨T3, hT3⟩ : ∃ T3, T3 = T2 ++ [62] := ⟨_, rfl⟩
                  obtain ⟨T4, hT4⟩ : ∃ T4, T4 = T3 ++ nb := ⟨_, rfl⟩
                  have c1 : Pl.str T ++ (⟨#[32, 42, 32]⟩ : ByteArray) = Pl.str T1 := by rw [hT1]; exact catC _ _ _ rfl
                  have c2 : Pl.str T1 ++ Pl.str na = Pl.str T2 := by rw [hT2]; exact Pl.str_append _ _
                  have c3 : Pl.str T2 ++ (⟨#[62]⟩ : ByteArray) = Pl.str T3 := by rw [hT3]; exact catC _ _ _ rfl
                  have c4 : Pl.str T3 ++ Pl.str nb = Pl.str T4 := by rw [hT4]; exact Pl.str_append _ _
                  have z1 : (Pl.str T1).size = T.length + 3 := by rw [Pl.str_size, hT1, List.length_append]; rfl
                  have z2 : (Pl.str T2).size = T.length + 3 + na.length := by rw [Pl.str_size, hT2, hT1, List.length_append, List.length_append]; rfl
                  have z3 : (Pl.str T3).size = T.length + 3 + na.length + 1 := by rw [Pl.str_size, hT3, hT2, hT1, List.length_append, List.length_append, List.length_append]; rfl
                  have n1 : ¬ (9223372036854775807 < T.length + 3) := by omega
                  have n2 : ¬ (9223372036854775807 < T.length + 3 + na.length) := by omega
                  have n3 : ¬ (9223372036854775807 < T.length + 3 + na.length + 1) := by omega
                  have n4 : ¬ (9223372036854775807 < T.length + 3 + na.length + 1 + nb.length) := by omega
                  have hl4 : T4.length = T.length + 3 + na.length + 1 + nb.length := by rw [hT4, hT3, hT2, hT1, List.length_append, List.length_append, List.length_append, List.length_append]; rfl
                  have HV := Lib.hid (show T4 = partX f a (k + 1) by rw [partX_step hk0 hlt, txX_k hsx, ← HP.out, hT4, hT3, hT2, hT1, hna, hnb]; simp [List.append_assoc])
                  clear hT1 hT2 hT3 hT4 hsx hna hnb
                  go_wp2_with fail
                  go_quiet (first | (go_at_call 38; with_reducible exact qcall (CA.out _)) | (go_at_call 38; with_reducible exact qcall (CB.out _)) | fail)
                  go_wp2_with fail
                  go_roundw
                  case rel => exact ⟨k + 1, T4, by omega, by go_num, rfl, HV, by omega, (by repeat (first | exact Grow.refl _ | assumption | refine Grow.alloc ?_ _ | refine Grow.drew ?_ | refine Grow.drewN ?_ _ | refine Grow.trans ?_ (by assumption) | refine Grow.below ?_ (by assumption) (by first | exact Nat.le_refl _ | omega)))⟩
                  case measure => simp [intOf]; omega
                · have hk1 : ((k : Int) == 0) = true := by rw [beq_iff_eq]; omega
                  obtain ⟨T1, hT1⟩ : ∃ T1, T1 = T ++ [32, 124, 32] := ⟨_, rfl⟩
                  obtain ⟨T2, hT2⟩ : ∃ T2, T2 = T1 ++ na := ⟨_, rfl⟩
                  obtain ⟨T3, hT3⟩ : ∃ T3, T3 = T2 ++ [62] := ⟨_, rfl⟩
                  obtain ⟨T4, hT4⟩ : ∃ T4, T4 = T3 ++ nb := ⟨_, rfl⟩
                  have c1 : Pl.str T ++ (⟨#[32, 124, 32]⟩ : ByteArray) = Pl.str T1 := by rw [hT1]; exact catC _ _ _ rfl
                  have c2 : Pl.str T1 ++ Pl.str na = Pl.str T2 := by rw [hT2]; exact Pl.str_append _ _
                  have c3 : Pl.str T2 ++ (⟨#[62]⟩ : ByteArray) = Pl.str T3 := by rw [hT3]; exact catC _ _ _ rfl
                  have c4 : Pl.str T3 ++ Pl.str nb = Pl.str T4 := by rw [hT4]; exact Pl.str_append _ _
                  have z1 : (Pl.str T1).size = T.length + 3 := by rw [Pl.str_size, hT1, List.length_append]; rfl
                  have z2 : (Pl.str T2).size = T.length + 3 + na.length := by rw [Pl.str_size, hT2, hT1, List.length_append, List.length_append]; rfl
                  have z3 : (Pl.str T3).size = T.length + 3 + na.length + 1 := by rw [Pl.str_size, hT3, hT2, hT1, List.length_append, List.length_append, List.length_append]; rfl
                  have n1 : ¬ (9223372036854775807 < T.length + 3) := by omega
                  have n2 : ¬ (9223372036854775807 < T.length + 3 + na.length) := by omega
                  have n3 : ¬ (9223372036854775807 < T.length + 3 + na.length + 1) := by omega
                  have n4 : ¬ (9223372036854775807 < T.length + 3 + na.length + 1 + nb.length) := by omega
                  have hl4 : T4.length = T.length + 3 + na.length + 1 + nb.length := by rw [hT4, hT3, hT2, hT1, List.length_append, List.length_append, List.length_append, List.length_append]; rfl
                  have HV := Lib.hid (show T4 = partX f a (k + 1) by rw [partX_one' (by omega) hlt, txX_k hsx, ← HP.out, hT4, hT3, hT2, hT1, hna, hnb]; simp [List.append_assoc])
                  clear hT1 hT2 hT3 hT4 hsx hna hnb
                  go_wp2_with fail
                  go_quiet (first | (go_at_call 38; with_reducible exact qcall (CA.out _)) | (go_at_call 38; with_reducible exact qcall (CB.out _)) | fail)
                  go_wp2_with fail
                  go_roundw
                  case rel => exact ⟨k + 1, T4, by omega, by go_num, rfl, HV, by omega, (by repeat (first | exact Grow.refl _ | assumption | refine Grow.alloc ?_ _ | refine Grow.drew ?_ | refine Grow.drewN ?_ _ | refine Grow.trans ?_ (by assumption) | refine Grow.below ?_ (by assumption) (by first | exact Nat.le_refl _ | omega)))⟩
                  case measure => simp [intOf]; omega
            · have HX := Lib.hid (show Pl.txA ⟨f, a⟩ = T by rw [HP.out, partX_all hlt ha0])
              go_wp2_with fail
              go_ret
              exact ⟨by rw [HX.out]; rfl, H1.trans G⟩
        · have ha1 : ((a.length : Int) == 0) = true := by rw [beq_iff_eq]; omega
          have HX := Lib.hid (show Pl.txA ⟨f, a⟩ = [116, 114, 117, 101, 32, 124, 32, 101, 109, 112] by rw [hf2, show a = [] from List.eq_nil_of_length_eq_zero (by omega)]; rfl)
          clear hf2
          go_wp2_with fail
          go_ret
          exact ⟨by rw [HX.out]; rfl, H1⟩

set_option maxRecDepth 100000 in
theorem sFormatAssertion_c (A B : Option Addr) (c d : Nat) (s : Pl.Asr) (w : World) (hS : Asrs w A B s) (h1 : s.f.length ≤ 4194304) (h2 : s.a.length ≤ 4194304) :
    Calls Tryd.prog 32 #[asval A B c d s] w fun e w' => e = .returned (.string (Pl.str (Pl.fmtA s))) ∧ Grow w w' := by
  obtain ⟨f, a⟩ := s
  cases hv : Pl.asv ⟨f, a⟩ with
  | false =>
    have HV := Lib.hid (show Pl.fmtA ⟨f, a⟩ = [] by unfold Pl.fmtA; rw [hv]; rfl)
    have CV := Lib.hid (show ∀ W, Asrs W A B ⟨f, a⟩ → Calls Tryd.prog 34 #[.agg #[.slice A f.length c, .slice B a.length d]] W fun e w' => e = .returned (.bool false) ∧ Grow W w' from fun W k => by rw [← hv]; exact sAssertionValid_c A B c d ⟨f, a⟩ W k h1 h2)
    show Calls Tryd.prog 32 #[.agg #[.slice A f.length c, .slice B a.length d]] w _
    go_enter Tryd.func32, Tryd.ntmps32
    go_wp2_with fail
    refine (CV.out _ (hS.grow (by repeat (first | exact Grow.refl _ | assumption | refine Grow.alloc ?_ _ | refine Grow.drew ?_ | refine Grow.drewN ?_ _ | refine Grow.trans ?_ (by assumption) | refine Grow.below ?_ (by assumption) (by first | exact Nat.le_refl _ | omega))))).mono ?_
    rintro e w1 ⟨rfl, g1⟩
    go_wp2_with fail
    go_ret
    exact ⟨by rw [HV.out]; rfl, (by repeat (first | exact Grow.refl _ | assumption | refine Grow.alloc ?_ _ | refine Grow.drew ?_ | refine Grow.drewN ?_ _ | refine Grow.trans ?_ (by assumption) | refine Grow.below ?_ (by assumption) (by first | exact Nat.le_refl _ | omega)))⟩
  | true =>
    have HV := Lib.hid (show Pl.fmtA ⟨f, a⟩ = Pl.txA ⟨f, a⟩ by unfold Pl.fmtA; rw [hv]; rfl)
    have CV := Lib.hid (show ∀ W, Asrs W A B ⟨f, a⟩ → Calls Tryd.prog 34 #[.agg #[.slice A f.length c, .slice B a.length d]] W fun e w' => e = .returned (.bool true) ∧ Grow W w' from fun W k => by rw [← hv]; exact sAssertionValid_c A B c d ⟨f, a⟩ W k h1 h2)
    have CT := Lib.hid (show ∀ W, Asrs W A B ⟨f, a⟩ → Calls Tryd.prog 77 #[.agg #[.slice A f.length c, .slice B a.length d]] W fun e w' => e = .returned (.string (Pl.str (Pl.txA ⟨f, a⟩))) ∧ Grow W w' from fun W k => l3Text_c A B c d f a W k hv)
    show Calls Tryd.prog 32 #[.agg #[.slice A f.length c, .slice B a.length d]] w _
    have y0 := Box2.new w 46 (.slice A f.length c) (.slice B a.length d)
    clear hv
    go_enter Tryd.func32, Tryd.ntmps32
    go_wp2_with fail
    refine (CV.out _ (hS.grow (by repeat (first | exact Grow.refl _ | assumption | refine Grow.alloc ?_ _ | refine Grow.drew ?_ | refine Grow.drewN ?_ _ | refine Grow.trans ?_ (by assumption) | refine Grow.below ?_ (by assumption) (by first | exact Nat.le_refl _ | omega))))).mono ?_
    rintro e w1 ⟨rfl, g1⟩
    obtain ⟨k0, k1, _, _⟩ := (y0.grow g1).facts
    have G1 : Grow w w1 := (by repeat (first | exact Grow.refl _ | assumption | refine Grow.alloc ?_ _ | refine Grow.drew ?_ | refine Grow.drewN ?_ _ | refine Grow.trans ?_ (by assumption) | refine Grow.below ?_ (by assumption) (by first | exact Nat.le_refl _ | omega)))
    go_wp2_with fail
    refine (CT.out _ (hS.grow G1)).mono ?_
    rintro e w2 ⟨rfl, g2⟩
    go_wp2_with fail
    go_ret
    exact ⟨by rw [HV.out]; rfl, G1.trans g2⟩

end Go.Proofs.YtifdefkkofngoaaDoor
