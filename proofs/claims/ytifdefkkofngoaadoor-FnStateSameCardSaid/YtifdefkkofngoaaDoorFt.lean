/- An assertion as text, in the program. Condition: the table of names stands; the lengths are far from Go's bounds. -/
import Derived.Test.YtifdefkkofngoaaDoorLy
import Derived.Test.YtifdefkkofngoaaDoorDrawG
namespace Go.Proofs.YtifdefkkofngoaaDoor
open Go.RowKit
set_option linter.unusedVariables false

theorem map_take_step {α : Type} (F : α → List UInt8) {l : List α} {k : Nat} (hk : k < l.length) {m : List (List UInt8)} (h : m = (l.take k).map F) : m ++ [F l[k]] = (l.take (k + 1)).map F := by
  subst h; rw [List.take_succ_eq_append_getElem hk, List.map_append]; rfl
theorem onil (w : World) (lo : Nat) : OTexts w lo (.slice none 0 0) [] := World.ownsRow_nil _ _ _ _
theorem fx_ne {l : List Pl.Fct} (h : 0 < l.length) : Pl.fTx l = Lib.join (l.map Pl.txF) [32, 38, 32] := by unfold Pl.fTx; rw [if_neg (by rintro rfl; simp at h)]; rfl
theorem ax_ne {l : List Pl.Atm} (h : 0 < l.length) : Pl.aTx l = Lib.join (l.map Pl.txX) [32, 42, 32] := by unfold Pl.aTx; rw [if_neg (by rintro rfl; simp at h)]; rfl
theorem fx_len {l : List Pl.Fct} (h : l.length ≤ 12) : (Pl.fTx l).length ≤ 132 := by
  unfold Pl.fTx
  split
  · decide
  · exact Pl.join_len (n := 8) (m := 12) (sep := Pl.sepF) (ps := l.map Pl.txF) (by intro p hp; obtain ⟨f, _, rfl⟩ := List.mem_map.1 hp; exact Pl.txF_len f) (by simpa using h)
theorem ax_len {l : List Pl.Atm} (h : l.length ≤ 6) : (Pl.aTx l).length ≤ 60 := by
  unfold Pl.aTx
  split
  · decide
  · exact Pl.join_len (n := 7) (m := 6) (sep := Pl.sepX) (ps := l.map Pl.txX) (by intro p hp; obtain ⟨f, _, rfl⟩ := List.mem_map.1 hp; exact Pl.txX_len f) (by simpa using h)


theorem hU_lit {T : List UInt8} (e : T = [116, 114, 117, 101]) : (⟨#[116, 114, 117, 101]⟩ : ByteArray) = Pl.str T := by subst e; rfl

set_option maxRecDepth 100000 in
set_option maxHeartbeats 3200000 in
theorem FormatAssertion_c (A B : Option Addr) (c d : Nat) (s : Pl.Asr) (w : World) (hS : Asrs w A B s) (h1 : s.f.length ≤ 4194304) (h2 : s.a.length ≤ 4194304) (hT : TabN w) :
    Calls Tryd.prog 31 #[asval A B c d s] w fun e w' => e = .returned (.string (Pl.str (Pl.fmtA s))) ∧ Grow w w' := by
  obtain ⟨i0, hi, hz0, hz1, hz2⟩ := info_parts string_info
  cases hv : Pl.asv s with
  | false =>
    have HV := Lib.hid (show Pl.fmtA s = [] by unfold Pl.fmtA; rw [hv]; rfl)
    obtain ⟨f, a⟩ := s
    have CV := Lib.hid (show ∀ W, Asrs W A B ⟨f, a⟩ → Calls Tryd.prog 33 #[.agg #[.slice A f.length c, .slice B a.length d]] W fun e w' => e = .returned (.bool false) ∧ Grow W w' from fun W k => by rw [← hv]; exact AssertionValid_c A B c d ⟨f, a⟩ W k h1 h2)
    show Calls Tryd.prog 31 #[.agg #[.slice A f.length c, .slice B a.length d]] w _
    replace h1 : f.length ≤ 4194304 := h1
    replace h2 : a.length ≤ 4194304 := h2
    go_enter Tryd.func31, Tryd.ntmps31
    go_wp2_with fail
    refine (CV.out _ (hS.grow (by repeat (first | exact Grow.refl _ | assumption | refine Grow.alloc ?_ _ | refine Grow.drew ?_ | refine Grow.drewN ?_ _ | refine Grow.trans ?_ (by assumption) | refine Grow.below ?_ (by assumption) (by first | exact Nat.le_refl _ | omega))))).mono ?_
    rintro e w1 ⟨rfl, g1⟩
    go_wp2_with fail
    go_ret
    exact ⟨by rw [HV.out]; rfl, (by repeat (first | exact Grow.refl _ | assumption | refine Grow.alloc ?_ _ | refine Grow.drew ?_ | refine Grow.drewN ?_ _ | refine Grow.trans ?_ (by assumption) | refine Grow.below ?_ (by assumption) (by first | exact Nat.le_refl _ | omega)))⟩
  | true =>
    obtain ⟨f, a⟩ := s
    obtain ⟨e1, e2, e3⟩ := (Pl.asv_iff _).1 hv
    obtain ⟨e4, e5⟩ := (Pl.fsv_iff _).1 e1
    have HF := Lib.hid e5
    have HA := Lib.hid e3
    replace h1 : f.length ≤ 12 := e4
    replace h2 : a.length ≤ 6 := e2
    rw [show Pl.fmtA ⟨f, a⟩ = Pl.txA ⟨f, a⟩ by unfold Pl.fmtA; rw [hv]; rfl]
    have CV := Lib.hid (show ∀ W, Asrs W A B ⟨f, a⟩ → Calls Tryd.prog 33 #[.agg #[.slice A f.length c, .slice B a.length d]] W fun e w' => e = .returned (.bool true) ∧ Grow W w' from fun W k => by rw [← hv]; exact AssertionValid_c A B c d ⟨f, a⟩ W k (by show f.length ≤ _; omega) (by show a.length ≤ _; omega))
    show Calls Tryd.prog 31 #[.agg #[.slice A f.length c, .slice B a.length d]] w _
    clear e1 e2 e3 e4 e5 hv
    have IA : Facts w A f := hS.v
    have IB : Atoms w B a := hS.h
    have y0 := Box2.new w 46 (.slice A f.length c) (.slice B a.length d)
    obtain ⟨T, hTT⟩ : ∃ T, T = Pl.fTx f := ⟨_, rfl⟩
    have lT : T.length ≤ 132 := by rw [hTT]; exact fx_len h1
    obtain ⟨U, hU⟩ : ∃ U, U = T ++ [32, 124, 32] := ⟨_, rfl⟩
    have lU : U.length = T.length + 3 := by rw [hU, List.length_append]; rfl
    have z1 : (Pl.str T).size = T.length := Pl.str_size T
    have z2 : (Pl.str U).size = U.length := Pl.str_size U
    have cU : Pl.str T ++ (⟨#[32, 124, 32]⟩ : ByteArray) = Pl.str U := by rw [hU]; exact catC _ _ _ rfl
    have nU1 : ¬ (9223372036854775807 < T.length + 3) := by omega
    have HU := Lib.hid (show U = Pl.fTx f ++ [32, 124, 32] by rw [hU, hTT])
    have HT := Lib.hid hTT
    clear hU hTT
    go_enter Tryd.func31, Tryd.ntmps31
    go_wp2_with fail
    refine (CV.out _ (hS.grow (by repeat (first | exact Grow.refl _ | assumption | refine Grow.alloc ?_ _ | refine Grow.drew ?_ | refine Grow.drewN ?_ _ | refine Grow.trans ?_ (by assumption) | refine Grow.below ?_ (by assumption) (by first | exact Nat.le_refl _ | omega))))).mono ?_
    rintro e w1 ⟨rfl, g1⟩
    replace y0 := y0.grow g1
    have G1 : Grow w w1 := (by repeat (first | exact Grow.refl _ | assumption | refine Grow.alloc ?_ _ | refine Grow.drew ?_ | refine Grow.drewN ?_ _ | refine Grow.trans ?_ (by assumption) | refine Grow.below ?_ (by assumption) (by first | exact Nat.le_refl _ | omega)))
    obtain ⟨k0, k1, _, _⟩ := y0.facts
    clear g1 CV
    by_cases hf0 : 0 < f.length
    · have hf1 : (0 : Int) < (f.length : Int) := by omega
      go_wp2_with fail
      go_loopw [5, 21] (fun u i wr => ∃ (l : List (List UInt8)) (A : Option Addr) (c : Nat), l.length ≤ f.length ∧ i = .int .i64 l.length ∧ Hid (l = (f.take l.length).map Pl.txF) ∧ u = .slice A l.length c ∧ OTexts wr w1.heap.size (.slice A l.length c) l ∧ Grow w1 wr) (fun _ i _ => f.length - (intOf i).toNat)
      case atStart => exact ⟨[], _, _, by simp, rfl, Lib.hid rfl, rfl, onil _ _, Grow.refl _⟩
      case round =>
        obtain ⟨l, A1, c1, hk, rfl, HL, rfl, o1, G⟩ := hrel
        by_cases hlt : l.length < f.length
        · obtain ⟨b, off, rfl, q0, q1, q2⟩ := (IA.grow (G1.trans G)).at_ hlt
          obtain ⟨x, hx⟩ : ∃ x, x = Pl.txF f[l.length] := ⟨_, rfl⟩
          have CX := Lib.hid (show ∀ W, TabN W → Calls Tryd.prog 75 #[fval f[l.length]] W fun e w' => e = .returned (.string (Pl.str x)) ∧ Grow W w' from fun W t => by rw [hx, ← (show Pl.fmtF f[l.length] = Pl.txF f[l.length] by unfold Pl.fmtF; rw [if_pos (HF.out _ (List.getElem_mem hlt))])]; exact FormatFact_c _ W t)
          have HV := Lib.hid (show l ++ [x] = (f.take (l ++ [x]).length).map Pl.txF by rw [hx, List.length_append]; exact map_take_step Pl.txF hlt HL.out)
          have T2 := hT.grow (G1.trans G)
          have hszr := G.le
          clear hx
          go_wp2_with (first
            | (go_at_call 75; refine (CX.out _ (T2.grow (by repeat (first | exact Grow.refl _ | assumption | refine Grow.alloc ?_ _ | refine Grow.drew ?_ | refine Grow.drewN ?_ _ | refine Grow.trans ?_ (by assumption) | refine Grow.below ?_ (by assumption) (by first | exact Nat.le_refl _ | omega))))).mono ?_; rintro e w2 ⟨rfl, g2⟩; have hs2 := g2.le; simp only [World.size_alloc] at hs2)
            | (at_builtin; go_must (refine wpList_append_src _ rfl _ _ 57 rfl w1.heap.size 9 i0 _ 1 16 Tryd.underlying57 hi hz0 hz1 hz2 rfl (by omega) _ l.length (tcells l) rfl (own_grow o1 (by repeat (first | exact Grow.refl _ | assumption | refine Grow.alloc ?_ _ | refine Grow.drew ?_ | refine Grow.drewN ?_ _ | refine Grow.trans ?_ (by assumption) | refine Grow.below ?_ (by assumption) (by first | exact Nat.le_refl _ | omega)))) _ 1 1 [.string (Pl.str x)] rfl rfl (Cells.block (heap_alloc_new _ _)) (by intro u hu; rw [List.mem_singleton.1 hu]; rfl) (by unfold maxLen; omega) (by omega) (by simp; omega) (l.length + 1) rfl (tcells (l ++ [x])) (by simp) ?_; intro A3 c3 w3 ho3 _ _ hb3)))
          go_roundw
          case rel => exact ⟨l ++ [x], A3, c3, by simp; omega, by simp, HV, by simp, otexts_snoc ho3, (G.trans (by repeat (first | exact Grow.refl _ | assumption | refine Grow.alloc ?_ _ | refine Grow.drew ?_ | refine Grow.drewN ?_ _ | refine Grow.trans ?_ (by assumption) | refine Grow.below ?_ (by assumption) (by first | exact Nat.le_refl _ | omega)))).below hb3 (Nat.le_refl _)⟩
          case measure => simp [intOf]; omega
        · have hcap := own_cap o1
          have ej : T = Lib.join l [32, 38, 32] := by rw [HT.out, fx_ne hf0, HL.out, take_eq_all hlt]
          have lT2 := lT
          rw [ej] at lT2
          have J := Lib.hid (Join_c A1 c1 l [32, 38, 32] ⟨#[32, 38, 32]⟩ rfl wr (OTexts.texts rfl o1) (by omega) hcap (by omega) (by omega))
          rw [← ej] at J
          clear ej lT2
          clear hk
          go_wp2_with fail
          refine J.out.mono ?_
          rintro e w9 ⟨rfl, g9⟩
          replace G1 : Grow w w9 := (G1.trans G).trans g9
          replace y0 := y0.grow (G.trans g9)
          obtain ⟨k0, k1, _, _⟩ := y0.facts
          clear J o1 g9
          by_cases ha0 : 0 < a.length
          · have ha1 : (0 : Int) < (a.length : Int) := by omega
            go_wp2_with fail
            clear G
            have hla : a.length ≤ 6 := h2
            go_loopw [8, 40] (fun u i wr => ∃ (l : List (List UInt8)) (A : Option Addr) (c : Nat), l.length ≤ a.length ∧ i = .int .i64 l.length ∧ Hid (l = (a.take l.length).map Pl.txX) ∧ u = .slice A l.length c ∧ OTexts wr w9.heap.size (.slice A l.length c) l ∧ Grow w9 wr) (fun _ i _ => a.length - (intOf i).toNat)
            case atStart => exact ⟨[], _, _, by simp, rfl, Lib.hid rfl, rfl, onil _ _, Grow.refl _⟩
            case round =>
              obtain ⟨l, A1, c1, hk, rfl, HL, rfl, o1, G⟩ := hrel
              by_cases hlt : l.length < a.length
              · obtain ⟨b, off, rfl, q0, q1, q2⟩ := (IB.grow (G1.trans G)).at_ hlt
                obtain ⟨x, hx⟩ : ∃ x, x = Pl.txX a[l.length] := ⟨_, rfl⟩
                have CX := Lib.hid (show ∀ W, TabN W → Calls Tryd.prog 76 #[xval a[l.length]] W fun e w' => e = .returned (.string (Pl.str x)) ∧ Grow W w' from fun W t => by rw [hx]; exact formatAtom_c _ W (HA.out _ (List.getElem_mem hlt)) t)
                have HV := Lib.hid (show l ++ [x] = (a.take (l ++ [x]).length).map Pl.txX by rw [hx, List.length_append]; exact map_take_step Pl.txX hlt HL.out)
                have T2 := hT.grow (G1.trans G)
                have hszr := G.le
                clear hx
                go_wp2_with (first
                  | (go_at_call 76; refine (CX.out _ (T2.grow (by repeat (first | exact Grow.refl _ | assumption | refine Grow.alloc ?_ _ | refine Grow.drew ?_ | refine Grow.drewN ?_ _ | refine Grow.trans ?_ (by assumption) | refine Grow.below ?_ (by assumption) (by first | exact Nat.le_refl _ | omega))))).mono ?_; rintro e w2 ⟨rfl, g2⟩; have hs2 := g2.le; simp only [World.size_alloc] at hs2)
                  | (at_builtin; go_must (refine wpList_append_src _ rfl _ _ 57 rfl w9.heap.size 9 i0 _ 1 16 Tryd.underlying57 hi hz0 hz1 hz2 rfl (by omega) _ l.length (tcells l) rfl (own_grow o1 (by repeat (first | exact Grow.refl _ | assumption | refine Grow.alloc ?_ _ | refine Grow.drew ?_ | refine Grow.drewN ?_ _ | refine Grow.trans ?_ (by assumption) | refine Grow.below ?_ (by assumption) (by first | exact Nat.le_refl _ | omega)))) _ 1 1 [.string (Pl.str x)] rfl rfl (Cells.block (heap_alloc_new _ _)) (by intro u hu; rw [List.mem_singleton.1 hu]; rfl) (by unfold maxLen; omega) (by omega) (by simp; omega) (l.length + 1) rfl (tcells (l ++ [x])) (by simp) ?_; intro A3 c3 w3 ho3 _ _ hb3)))
                go_roundw
                case rel => exact ⟨l ++ [x], A3, c3, by simp; omega, by simp, HV, by simp, otexts_snoc ho3, (G.trans (by repeat (first | exact Grow.refl _ | assumption | refine Grow.alloc ?_ _ | refine Grow.drew ?_ | refine Grow.drewN ?_ _ | refine Grow.trans ?_ (by assumption) | refine Grow.below ?_ (by assumption) (by first | exact Nat.le_refl _ | omega)))).below hb3 (Nat.le_refl _)⟩
                case measure => simp [intOf]; omega
              · have hcap := own_cap o1
                have hxl := ax_len hla
                have ej : Pl.aTx a = Lib.join l [32, 42, 32] := by rw [ax_ne ha0, HL.out, take_eq_all hlt]
                rw [ej] at hxl
                have J := Lib.hid (Join_c A1 c1 l [32, 42, 32] ⟨#[32, 42, 32]⟩ rfl wr (OTexts.texts rfl o1) (by omega) hcap (by omega) (by omega))
                obtain ⟨X, hX⟩ : ∃ X, X = Lib.join l [32, 42, 32] := ⟨_, rfl⟩
                rw [← hX] at hxl ej J
                have HX := Lib.hid (show Pl.txA ⟨f, a⟩ = U ++ X by unfold Pl.txA; rw [HU.out, ← ej]; rfl)
                clear ej hX
                have z9 : (Pl.str X).size = X.length := Pl.str_size X
                have hz9 : ¬ (9223372036854775807 < U.length + X.length) := by omega
                have c9 : Pl.str U ++ Pl.str X = Pl.str (U ++ X) := Pl.str_append _ _
                clear hla hk
                go_wp2_with fail
                refine J.out.mono ?_
                rintro e w9 ⟨rfl, g9⟩
                go_wp2_with fail
                go_ret
                exact ⟨by rw [HX.out]; rfl, (G1.trans G).trans g9⟩
          · have ha1 : ¬ (0 : Int) < (a.length : Int) := by omega
            have HX := Lib.hid (show Pl.txA ⟨f, a⟩ = U ++ [101, 109, 112] by unfold Pl.txA; rw [HU.out, show a = [] from List.eq_nil_of_length_eq_zero (by omega)]; rfl)
            have cE : Pl.str U ++ (⟨#[101, 109, 112]⟩ : ByteArray) = Pl.str (U ++ [101, 109, 112]) := catC _ _ _ rfl
            have nE : ¬ (9223372036854775807 < U.length + 3) := by omega
            go_wp2_with fail
            go_ret
            exact ⟨by rw [HX.out]; rfl, G1⟩
    · have hf1 : ¬ (0 : Int) < (f.length : Int) := by omega
      have hf2 : f = [] := List.eq_nil_of_length_eq_zero (by omega)
      have hTl : T = [116, 114, 117, 101] := by rw [HT.out, hf2]; rfl
      have hlit := Lib.hid (hU_lit hTl)
      by_cases ha0 : 0 < a.length
      · have ha1 : (0 : Int) < (a.length : Int) := by omega
        clear hf2 hTl
        go_wp2_with fail
        rw [hlit.out]
        have hla : a.length ≤ 6 := h2
        go_loopw [8, 40] (fun u i wr => ∃ (l : List (List UInt8)) (A : Option Addr) (c : Nat), l.length ≤ a.length ∧ i = .int .i64 l.length ∧ Hid (l = (a.take l.length).map Pl.txX) ∧ u = .slice A l.length c ∧ OTexts wr w1.heap.size (.slice A l.length c) l ∧ Grow w1 wr) (fun _ i _ => a.length - (intOf i).toNat)
        case atStart => exact ⟨[], _, _, by simp, rfl, Lib.hid rfl, rfl, onil _ _, Grow.refl _⟩
        case round =>
          obtain ⟨l, A1, c1, hk, rfl, HL, rfl, o1, G⟩ := hrel
          by_cases hlt : l.length < a.length
          · obtain ⟨b, off, rfl, q0, q1, q2⟩ := (IB.grow (G1.trans G)).at_ hlt
            obtain ⟨x, hx⟩ : ∃ x, x = Pl.txX a[l.length] := ⟨_, rfl⟩
            have CX := Lib.hid (show ∀ W, TabN W → Calls Tryd.prog 76 #[xval a[l.length]] W fun e w' => e = .returned (.string (Pl.str x)) ∧ Grow W w' from fun W t => by rw [hx]; exact formatAtom_c _ W (HA.out _ (List.getElem_mem hlt)) t)
            have HV := Lib.hid (show l ++ [x] = (a.take (l ++ [x]).length).map Pl.txX by rw [hx, List.length_append]; exact map_take_step Pl.txX hlt HL.out)
            have T2 := hT.grow (G1.trans G)
            have hszr := G.le
            clear hx
            go_wp2_with (first
              | (go_at_call 76; refine (CX.out _ (T2.grow (by repeat (first | exact Grow.refl _ | assumption | refine Grow.alloc ?_ _ | refine Grow.drew ?_ | refine Grow.drewN ?_ _ | refine Grow.trans ?_ (by assumption) | refine Grow.below ?_ (by assumption) (by first | exact Nat.le_refl _ | omega))))).mono ?_; rintro e w2 ⟨rfl, g2⟩; have hs2 := g2.le; simp only [World.size_alloc] at hs2)
              | (at_builtin; go_must (refine wpList_append_src _ rfl _ _ 57 rfl w1.heap.size 9 i0 _ 1 16 Tryd.underlying57 hi hz0 hz1 hz2 rfl (by omega) _ l.length (tcells l) rfl (own_grow o1 (by repeat (first | exact Grow.refl _ | assumption | refine Grow.alloc ?_ _ | refine Grow.drew ?_ | refine Grow.drewN ?_ _ | refine Grow.trans ?_ (by assumption) | refine Grow.below ?_ (by assumption) (by first | exact Nat.le_refl _ | omega)))) _ 1 1 [.string (Pl.str x)] rfl rfl (Cells.block (heap_alloc_new _ _)) (by intro u hu; rw [List.mem_singleton.1 hu]; rfl) (by unfold maxLen; omega) (by omega) (by simp; omega) (l.length + 1) rfl (tcells (l ++ [x])) (by simp) ?_; intro A3 c3 w3 ho3 _ _ hb3)))
            go_roundw
            case rel => exact ⟨l ++ [x], A3, c3, by simp; omega, by simp, HV, by simp, otexts_snoc ho3, (G.trans (by repeat (first | exact Grow.refl _ | assumption | refine Grow.alloc ?_ _ | refine Grow.drew ?_ | refine Grow.drewN ?_ _ | refine Grow.trans ?_ (by assumption) | refine Grow.below ?_ (by assumption) (by first | exact Nat.le_refl _ | omega)))).below hb3 (Nat.le_refl _)⟩
            case measure => simp [intOf]; omega
          · have hcap := own_cap o1
            have hxl := ax_len hla
            have ej : Pl.aTx a = Lib.join l [32, 42, 32] := by rw [ax_ne ha0, HL.out, take_eq_all hlt]
            rw [ej] at hxl
            have J := Lib.hid (Join_c A1 c1 l [32, 42, 32] ⟨#[32, 42, 32]⟩ rfl wr (OTexts.texts rfl o1) (by omega) hcap (by omega) (by omega))
            obtain ⟨X, hX⟩ : ∃ X, X = Lib.join l [32, 42, 32] := ⟨_, rfl⟩
            rw [← hX] at hxl ej J
            have HX := Lib.hid (show Pl.txA ⟨f, a⟩ = U ++ X by unfold Pl.txA; rw [HU.out, ← ej]; rfl)
            clear ej hX
            have z9 : (Pl.str X).size = X.length := Pl.str_size X
            have hz9 : ¬ (9223372036854775807 < U.length + X.length) := by omega
            have c9 : Pl.str U ++ Pl.str X = Pl.str (U ++ X) := Pl.str_append _ _
            clear hla hk
            go_wp2_with fail
            refine J.out.mono ?_
            rintro e w9 ⟨rfl, g9⟩
            go_wp2_with fail
            go_ret
            exact ⟨by rw [HX.out]; rfl, (G1.trans G).trans g9⟩
      · have ha1 : ¬ (0 : Int) < (a.length : Int) := by omega
        have HX := Lib.hid (show Pl.txA ⟨f, a⟩ = [116, 114, 117, 101, 32, 124, 32, 101, 109, 112] by rw [hf2, show a = [] from List.eq_nil_of_length_eq_zero (by omega)]; rfl)
        clear hf2 hTl
        go_wp2_with fail
        go_ret
        exact ⟨by rw [HX.out]; rfl, G1⟩

end Go.Proofs.YtifdefkkofngoaaDoor
