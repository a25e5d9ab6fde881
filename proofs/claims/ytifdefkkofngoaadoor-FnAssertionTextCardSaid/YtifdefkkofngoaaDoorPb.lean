/- Contract of the reference's ParseAssertion. Conditions: the text is shorter than the library's bound. -/
import Derived.Test.YtifdefkkofngoaaDoorWd
import Derived.Test.YtifdefkkofngoaaDoorXg
import Derived.Test.YtifdefkkofngoaaDoorFs
import Derived.Test.YtifdefkkofngoaaDoorAs5
import Derived.Test.YtifdefkkofngoaaDoorAs8
import Derived.Test.YtifdefkkofngoaaDoorPlainAll
namespace Go.Proofs.YtifdefkkofngoaaDoor
open Go.RowKit
set_option linter.unusedVariables false

theorem scan_step {ws : List (List UInt8)} {k : Nat} (hk : k < ws.length) (sec : Bool) (a : Pl.Asr) : Pl.scan (ws.drop k) sec a =
    if !sec && (Pl.pF ws[k]).2 then Pl.scan (ws.drop (k + 2)) (sec || Pl.isBar (ws.drop (k + 1))) ⟨a.f ++ [(Pl.pF ws[k]).1], a.a⟩
    else if sec && (Pl.pX ws[k]).2 then Pl.scan (ws.drop (k + 2)) (sec || Pl.isBar (ws.drop (k + 1))) ⟨a.f, a.a ++ [(Pl.pX ws[k]).1]⟩
    else if ws[k] ≠ Pl.tTrue ∧ ws[k] ≠ Pl.tEmp then none
    else Pl.scan (ws.drop (k + 2)) (sec || Pl.isBar (ws.drop (k + 1))) a := by
  rw [List.drop_eq_getElem_cons hk, Pl.scan]
  simp only [List.drop_drop]
theorem scan_end {ws : List (List UInt8)} {k : Nat} (hk : ¬ k < ws.length) (sec : Bool) (a : Pl.Asr) : Pl.scan (ws.drop k) sec a = some a := by
  rw [List.drop_eq_nil_of_le (by omega), Pl.scan]
theorem bar_yes {ws : List (List UInt8)} {k : Nat} (hk : k < ws.length) : Pl.isBar (ws.drop k) = (ws[k] == [124]) := by
  rw [List.drop_eq_getElem_cons hk]; rfl
theorem bar_no {ws : List (List UInt8)} {k : Nat} (hk : ¬ k < ws.length) : Pl.isBar (ws.drop k) = false := by
  rw [List.drop_eq_nil_of_le (by omega)]; rfl
theorem scan_f {ws : List (List UInt8)} {k : Nat} (hk : k < ws.length) {x : List UInt8} (hx : x = ws[k]) {f : Pl.Fct} (hf : (f, true) = Pl.pF x) {nb : Bool} (hn : nb = Pl.isBar (ws.drop (k + 1))) (a : Pl.Asr) : Pl.scan (ws.drop k) false a = Pl.scan (ws.drop (k + 2)) nb ⟨a.f ++ [f], a.a⟩ := by
  rw [scan_step hk, ← hx, ← hf, ← hn]; simp
theorem scan_x {ws : List (List UInt8)} {k : Nat} (hk : k < ws.length) {x : List UInt8} (hx : x = ws[k]) {y : Pl.Atm} (hf : (y, true) = Pl.pX x) (a : Pl.Asr) : Pl.scan (ws.drop k) true a = Pl.scan (ws.drop (k + 2)) true ⟨a.f, a.a ++ [y]⟩ := by
  rw [scan_step hk, ← hx, ← hf]; simp
theorem scan_p {ws : List (List UInt8)} {k : Nat} (hk : k < ws.length) {x : List UInt8} (hx : x = ws[k]) {f : Pl.Fct} (hf : (f, false) = Pl.pF x) {nb : Bool} (hn : nb = Pl.isBar (ws.drop (k + 1))) (hl : x = [116, 114, 117, 101] ∨ x = [101, 109, 112]) (a : Pl.Asr) : Pl.scan (ws.drop k) false a = Pl.scan (ws.drop (k + 2)) nb a := by
  rw [scan_step hk, ← hx, ← hf, ← hn]
  simp only [Bool.and_false, Bool.false_and, Bool.false_eq_true, if_false, Bool.false_or]
  rw [if_neg]
  rintro ⟨h1, h2⟩
  exact hl.elim (fun h => h1 h) (fun h => h2 h)
theorem scan_q {ws : List (List UInt8)} {k : Nat} (hk : k < ws.length) {x : List UInt8} (hx : x = ws[k]) {y : Pl.Atm} (hf : (y, false) = Pl.pX x) (hl : x = [116, 114, 117, 101] ∨ x = [101, 109, 112]) (a : Pl.Asr) : Pl.scan (ws.drop k) true a = Pl.scan (ws.drop (k + 2)) true a := by
  rw [scan_step hk, ← hx, ← hf]
  simp only [Bool.and_false, Bool.not_true, Bool.false_and, Bool.false_eq_true, if_false, Bool.true_or]
  rw [if_neg]
  rintro ⟨h1, h2⟩
  exact hl.elim (fun h => h1 h) (fun h => h2 h)
theorem scan_n {ws : List (List UInt8)} {k : Nat} (hk : k < ws.length) {x : List UInt8} (hx : x = ws[k]) {f : Pl.Fct} (hf : (f, false) = Pl.pF x) (h1 : ¬ x = [116, 114, 117, 101]) (h2 : ¬ x = [101, 109, 112]) (a : Pl.Asr) : Pl.scan (ws.drop k) false a = none := by
  rw [scan_step hk, ← hx, ← hf]
  simp only [Bool.and_false, Bool.false_and, Bool.false_eq_true, if_false]
  rw [if_pos ⟨h1, h2⟩]
theorem scan_m {ws : List (List UInt8)} {k : Nat} (hk : k < ws.length) {x : List UInt8} (hx : x = ws[k]) {y : Pl.Atm} (hf : (y, false) = Pl.pX x) (h1 : ¬ x = [116, 114, 117, 101]) (h2 : ¬ x = [101, 109, 112]) (a : Pl.Asr) : Pl.scan (ws.drop k) true a = none := by
  rw [scan_step hk, ← hx, ← hf]
  simp only [Bool.and_false, Bool.not_true, Bool.false_and, Bool.false_eq_true, if_false]
  rw [if_pos ⟨h1, h2⟩]
theorem cutA_mem {c : UInt8} {p : List UInt8} : ∀ (l cur : List UInt8), p ∈ Pl.cutA c l cur → p.length ≤ cur.length + l.length
  | [], cur, h => by rw [Pl.cutA, List.mem_singleton] at h; subst h; simp
  | b :: l, cur, h => by
    unfold Pl.cutA at h
    split at h
    · rcases List.mem_cons.1 h with rfl | h
      · simp
      · have := cutA_mem l [] h; simp at this ⊢; omega
    · have := cutA_mem l _ h; simp at this ⊢; omega
theorem words_mem {s p : List UInt8} (h : p ∈ Pl.wordsOf s) : p.length ≤ s.length := by
  have := cutA_mem s [] (List.mem_filter.1 h).1
  simpa using this
theorem qA_long {s : List UInt8} (h : ¬ s.length ≤ 300) : Pl.pA s = (Pl.noA, false) := by rw [← Pl.qA_pA]; unfold Pl.qA; rw [if_pos (by omega)]
theorem qA_none {s : List UInt8} (h : Pl.scan (Pl.wordsOf s) false Pl.noA = none) : Pl.pA s = (Pl.noA, false) := by rw [← Pl.qA_pA]; unfold Pl.qA; rw [h]; split <;> rfl
theorem qA_yes {s : List UInt8} {a : Pl.Asr} (h3 : s.length ≤ 300) (h : Pl.scan (Pl.wordsOf s) false Pl.noA = some a) (h1 : Pl.fmtA a = s) (h2 : s ≠ []) : Pl.pA s = (a, true) := by
  rw [← Pl.qA_pA]; unfold Pl.qA; rw [h, if_neg (by omega)]; simp only; rw [if_pos ⟨h1, h2⟩]
theorem qA_no {s : List UInt8} {a : Pl.Asr} (h : Pl.scan (Pl.wordsOf s) false Pl.noA = some a) (h1 : Pl.fmtA a = s → s = []) : Pl.pA s = (Pl.noA, false) := by
  rw [← Pl.qA_pA]; unfold Pl.qA; rw [h]; split
  · rfl
  · simp only; rw [if_neg]; rintro ⟨k1, k2⟩; exact k2 (h1 k1)


theorem tl_bar : (Pl.str [124]).toList = [124] := by rw [show Pl.str [124] = ⟨#[124]⟩ from rfl]; simp

set_option maxRecDepth 100000 in
set_option maxHeartbeats 6400000 in
theorem sParseAssertion_c (s : List UInt8) (w : World) (hs : s.length ≤ 2000000) :
    Calls Tryd.prog 25 #[.string (Pl.str s)] w (RAs w (Pl.pA s)) := by
  obtain ⟨i0, hi, hz0, hz1, hz2⟩ := info_parts fact_info
  obtain ⟨n0, hj, hy0, hy1, hy2⟩ := info_parts atom_info
  have hsz : (Pl.str s).size = s.length := Pl.str_size s
  have y2 := Box2.new w 46 (.slice none 0 0) (.slice none 0 0)
  have G : Grow w (w.alloc (.cells #[.slice none 0 0, .slice none 0 0] 46)) := (by repeat (first | exact Grow.refl _ | assumption | refine Grow.alloc ?_ _ | refine Grow.drew ?_ | refine Grow.drewN ?_ _ | refine Grow.trans ?_ (by assumption) | refine Grow.below ?_ (by assumption) (by first | exact Nat.le_refl _ | omega)))
  obtain ⟨ws, hws⟩ : ∃ ws, ws = Pl.wordsOf s := ⟨_, rfl⟩
  have C0 := Lib.hid (show ∀ W, Calls Tryd.prog 46 #[.string (Pl.str s)] W fun e w' => ∃ A c, e = .returned (.slice A ws.length c) ∧ OTexts w' W.heap.size (.slice A ws.length c) ws ∧ ws.length ≤ s.length + 1 ∧ Grow W w' from fun W => by rw [hws]; exact l18Words_c s W hs)
  have HM := Lib.hid (show ∀ p ∈ ws, p.length ≤ 2000000 from fun p hp => by rw [hws] at hp; exact Nat.le_trans (words_mem hp) hs)
  obtain ⟨R, hR⟩ : ∃ R, R = Pl.scan ws false Pl.noA := ⟨_, rfl⟩
  have HN := Lib.hid (show R = none → Pl.pA s = (Pl.noA, false) from fun e => qA_none (by rw [← hws, ← hR]; exact e))
  have HA := Lib.hid (show ∀ a, R = some a → s.length ≤ 300 → Pl.fmtA a = s → s ≠ [] → Pl.pA s = (a, true) from fun a e h3 h1 h2 => qA_yes h3 (by rw [← hws, ← hR]; exact e) h1 h2)
  have HB := Lib.hid (show ∀ a, R = some a → (Pl.fmtA a = s → s = []) → Pl.pA s = (Pl.noA, false) from fun a e h1 => qA_no (by rw [← hws, ← hR]; exact e) h1)
  have HS0 := Lib.hid (show Pl.scan (ws.drop 0) false ⟨[], []⟩ = R by rw [hR]; rfl)
  clear hws hR
  go_enter Tryd.func25, Tryd.ntmps25
  go_wp2_with fail
  generalize w.alloc (.cells #[.slice none 0 0, .slice none 0 0] 46) = w1 at *
  (with_reducible refine (C0.out _).mono ?_)
  rintro e w2 ⟨A4, c4, rfl, ow, hwl, g2⟩
  replace y2 := y2.grow g2
  replace G := G.trans g2
  have T1 := OTexts.texts rfl ow
  have hs2 := y2.lt
  clear g2 C0 ow
  have y5 := Box2.new w2 46 (.slice none 0 0) (.slice none 0 0)
  have G5 : Grow w2 (w2.alloc (.cells #[.slice none 0 0, .slice none 0 0] 46)) := (by repeat (first | exact Grow.refl _ | assumption | refine Grow.alloc ?_ _ | refine Grow.drew ?_ | refine Grow.drewN ?_ _ | refine Grow.trans ?_ (by assumption) | refine Grow.below ?_ (by assumption) (by first | exact Nat.le_refl _ | omega)))
  by_cases h3 : s.length ≤ 300
  · have h3' : ¬ (300 : Int) < (s.length : Int) := by omega
    go_wp2_with fail
    generalize w2.alloc (.cells #[.slice none 0 0, .slice none 0 0] 46) = w5 at *
    have h5 := y5.lt
    go_loopw [6, 7] (fun s6 i wr => ∃ (k : Nat) (sec : Bool) (f : List Pl.Fct) (a : List Pl.Atm) (A B : Option Addr) (c d lo2 : Nat), k ≤ ws.length + 1 ∧ i = .int .i64 k ∧ s6 = .bool sec ∧ Hid (Pl.scan (ws.drop k) sec ⟨f, a⟩ = R) ∧ f.length ≤ k ∧ a.length ≤ k ∧ (sec = false → a = [] ∧ B = none ∧ d = 0) ∧ Grow w2 wr ∧ Box2 wr w2.heap.size 46 (.slice A f.length c) (.slice B a.length d) ∧ OFacts wr (w2.heap.size + 1) (.slice A f.length c) f ∧ Bd (w2.heap.size + 1) lo2 (.slice A f.length c) ∧ OAtoms wr lo2 (.slice B a.length d) a ∧ w2.heap.size + 1 ≤ lo2 ∧ lo2 ≤ wr.heap.size) (fun _ i _ => ws.length + 1 - (intOf i).toNat)
    case atStart => exact ⟨0, false, [], [], none, none, 0, 0, w5.heap.size, by omega, rfl, rfl, HS0, by simp, by simp, fun _ => ⟨rfl, rfl, rfl⟩, G5, y5, ⟨rfl, .inl ⟨rfl, rfl⟩⟩, (fun k h => by cases h), ⟨rfl, .inl ⟨rfl, rfl⟩⟩, by omega, Nat.le_refl _⟩
    case round =>
      clear G5 y5 HS0
      obtain ⟨k, sec, f, a, A, B, c, d, lo2, hk, rfl, rfl, HS, hfk, hak, hsec, G2, y5, of, bf, oa, hl1, hl2⟩ := hrel
      have hszr := G2.le
      by_cases hlt : k < ws.length
      · have hk1 : (k : Int) < (ws.length : Int) := by omega
        have hk2 : (0 : Int) ≤ (k : Int) := by omega
        obtain ⟨bb, off, rfl, t0⟩ := (T1.grow G2).at_ hlt
        obtain ⟨x, hx⟩ : ∃ x, x = ws[k] := ⟨_, rfl⟩
        rw [← hx] at t0
        have hxl : x.length ≤ 2000000 := by rw [hx]; exact HM.out _ (List.getElem_mem hlt)
        obtain ⟨⟨ff, b1⟩, hpf⟩ : ∃ r, r = Pl.pF x := ⟨_, rfl⟩
        obtain ⟨⟨x0, b2⟩, hpx⟩ : ∃ r, r = Pl.pX x := ⟨_, rfl⟩
        have CP := Lib.hid (show ∀ W, Calls Tryd.prog 64 #[.string (Pl.str x)] W fun e w' => e = .returned (.tuple #[.agg #[.bool ff.e, .int .i64 ff.a, .int .i64 ff.b], .bool b1]) ∧ Grow W w' from fun W => by have := sParseFact_c x W hxl; rw [← hpf] at this; exact this)
        have CX := Lib.hid (show ∀ W, Calls Tryd.prog 65 #[.string (Pl.str x)] W fun e w' => ∃ x9 : Pl.Atm, e = .returned (.tuple #[.agg #[.int .i64 x9.k, .int .i64 x9.a, .int .i64 x9.b], .bool b2]) ∧ (b2 = true → x9 = x0) ∧ Grow W w' from fun W => (l3ParseAtom_c x W hxl).mono fun e w' ⟨r, h1, h2, h3⟩ => by
          have he := h2.eq
          rw [← hpx] at he
          obtain ⟨r1, r2⟩ := r
          obtain ⟨he1, he2⟩ := he
          simp only at he1
          subst he1
          exact ⟨r1, h1, fun h => congrArg Prod.fst (he2 h), h3⟩)
        have HX0 := Lib.hid hx
        have HPF := Lib.hid hpf
        have HPX := Lib.hid hpx
        clear hx hpf hpx
        go_wp2_with fail
        (with_reducible refine (CP.out _).mono ?_)
        rintro e w7 ⟨rfl, g7⟩
        have t7 := g7.cell t0
        have tb7 : bb < w7.heap.size := World.block_lt_of_cell? w7 _ t7
        have y8 := Box3.new w7 78 (.bool ff.e) (.int .i64 ff.a) (.int .i64 ff.b)
        have q8 : Grow wr (w7.alloc (.cells #[.bool ff.e, .int .i64 ff.a, .int .i64 ff.b] 78)) := (by repeat (first | exact Grow.refl _ | assumption | refine Grow.alloc ?_ _ | refine Grow.drew ?_ | refine Grow.drewN ?_ _ | refine Grow.trans ?_ (by assumption) | refine Grow.below ?_ (by assumption) (by first | exact Nat.le_refl _ | omega)))
        clear CP
        go_wp2_with fail
        generalize w7.alloc (.cells #[.bool ff.e, .int .i64 ff.a, .int .i64 ff.b] 78) = w8 at *
        (with_reducible refine (CX.out _).mono ?_)
        rintro e w9 ⟨x9, rfl, hx9, g9⟩
        have y10 := Box3.new w9 82 (.int .i64 x9.k) (.int .i64 x9.a) (.int .i64 x9.b)
        have q9 : Grow w8 (w9.alloc (.cells #[.int .i64 x9.k, .int .i64 x9.a, .int .i64 x9.b] 82)) := (by repeat (first | exact Grow.refl _ | assumption | refine Grow.alloc ?_ _ | refine Grow.drew ?_ | refine Grow.drewN ?_ _ | refine Grow.trans ?_ (by assumption) | refine Grow.below ?_ (by assumption) (by first | exact Nat.le_refl _ | omega)))
        have q : Grow wr (w9.alloc (.cells #[.int .i64 x9.k, .int .i64 x9.a, .int .i64 x9.b] 82)) := q8.trans q9
        replace y8 := y8.grow q9
        replace y5 := y5.grow q
        replace of : OFacts _ (w2.heap.size + 1) (.slice A f.length c) f := own_grow of q
        replace oa : OAtoms _ lo2 (.slice B a.length d) a := own_grow oa q
        replace hl2 := Nat.le_trans hl2 q.le
        replace t0 := q.cell t0
        have hwg : w2.heap.size + 1 ≤ (w9.alloc (.cells #[.int .i64 x9.k, .int .i64 x9.a, .int .i64 x9.b] 82)).heap.size := by omega
        have T2 := T1.grow (G2.trans q)
        have hsz9 := g9.le
        have hsw := hwg
        simp only [World.size_alloc] at hsw
        have hl3 := hl2
        simp only [World.size_alloc] at hl3
        replace y2 := y2.grow (G2.trans q)
        replace G2 := G2.trans q
        clear q q8 q9 g7 g9 t7 tb7 CX
        obtain ⟨j0, j1, e0, e1⟩ := y5.facts
        obtain ⟨r0, r1, r2⟩ := y8.facts
        obtain ⟨s0, s1, s2⟩ := y10.facts
        cases sec with
        | false =>
          obtain ⟨rfl, rfl, rfl⟩ := hsec rfl
          clear hx9 HPX
          by_cases h1 : k + 1 < ws.length
          · have hk3 : (k : Int) + 1 < (ws.length : Int) := by omega
            have hk4 : (0 : Int) ≤ (k : Int) + 1 := by omega
            obtain ⟨b', off', e', t1w⟩ := T1.at_ h1
            obtain ⟨rfl, rfl⟩ : b' = bb ∧ off' = off := by injection e' with e'; injection e' with e1 e2; exact ⟨e1.symm, e2.symm⟩
            obtain ⟨x1, hx1⟩ : ∃ x, x = ws[k + 1] := ⟨_, rfl⟩
            rw [← hx1] at t1w
            have t1 := G2.cell t1w
            have hbw : b' < w2.heap.size := World.block_lt_of_cell? w2 _ t1w
            have hbn : ¬ b' = w2.heap.size := by omega
            have hbn' : ¬ w2.heap.size = b' := by omega
            have hnb := bar_yes h1
            rw [← hx1] at hnb
            by_cases h124 : x1 = [124]
            · obtain ⟨ha0, ha1⟩ := lit_yes h124 tl_bar
              replace hnb : true = Pl.isBar (ws.drop (k + 1)) := by rw [hnb, h124]; rfl
              have HNB := Lib.hid hnb
              clear hx1 h124 hnb
              cases b1 with
              | true =>
                have HV := Lib.hid (show Pl.scan (ws.drop (k + 2)) true ⟨f ++ [ff], []⟩ = R by rw [← HS.out]; exact (scan_f hlt HX0.out HPF.out HNB.out ⟨f, []⟩).symm)
                go_wp2_with (at_builtin; go_must (refine wpList_append_src _ rfl _ _ 43 rfl (w2.heap.size + 1) 78 i0 _ 3 24 Tryd.underlying43 hi hz0 hz1 hz2 rfl (by omega) _ f.length (f.flatMap fcells) rfl (own_grow of (by repeat (first | exact Grow.refl _ | assumption | refine Grow.alloc ?_ _ | refine Grow.drew ?_ | refine Grow.drewN ?_ _ | refine Grow.trans ?_ (by assumption) | refine Grow.below ?_ (by assumption) (by first | exact Nat.le_refl _ | omega)))) _ 1 1 (fcells ff) rfl rfl (by first | exact Cells.block (heap_alloc_new _ _) | exact Cells.block (heap_snd _ _ _)) (fcells_one ff) (by unfold maxLen; omega) (by omega) (by simp; omega) (f.length + 1) rfl ((f ++ [ff]).flatMap fcells) (by rw [List.flatMap_append]; simp) ?_; intro A9 c9 w12 ho9 _ _ hb9; have y27 := (y5.grow (show Grow _ _ from Grow.alloc (Grow.refl _) _)).bel hb9 (by omega); obtain ⟨j0, j1, e0, e1⟩ := y27.facts; (try have t1n := ((G2.trans (show Grow _ _ from Grow.alloc (Grow.refl _) _)).below hb9 (by omega)).cell t1w); have hs9 := hb9.size; simp only [World.size_alloc] at hs9))
                go_roundw
                case rel => exact ⟨k + 2, true, f ++ [ff], [], A9, none, c9, 0, w12.heap.size, by omega, by go_num, rfl, HV, by simp; omega, by simp, fun _ => ⟨rfl, rfl, rfl⟩, ((G2.trans (show Grow _ _ from Grow.alloc (Grow.refl _) _)).below hb9 (by omega)).setCell (Nat.le_refl _) _, by rw [List.length_append]; exact y27.set0 _, ofacts_snc (own_far_lo (p := ⟨w2.heap.size, 0, none⟩) ho9 (by show w2.heap.size < w2.heap.size + 1; omega) _), by rw [List.length_append]; exact own_bd ho9, ⟨rfl, .inl ⟨rfl, rfl⟩⟩, by omega, by simp [World.setCell]⟩
                case measure => simp [intOf]; omega
              | false =>
                by_cases hT : x = [116, 114, 117, 101]
                · obtain ⟨hd0, hd1⟩ := lit_yes hT tl_true
                  have HV := Lib.hid (show Pl.scan (ws.drop (k + 2)) true ⟨f, []⟩ = R by rw [← HS.out]; exact (scan_p hlt HX0.out HPF.out HNB.out (.inl hT) ⟨f, []⟩).symm)
                  clear hT
                  go_wp2_with fail
                  go_roundw
                  case rel => exact ⟨k + 2, true, f, [], A, none, c, 0, lo2, by omega, by go_num, rfl, HV, by omega, by simp, fun _ => ⟨rfl, rfl, rfl⟩, G2, y5, of, bf, oa, hl1, hl2⟩
                  case measure => simp [intOf]; omega
                · by_cases hE : x = [101, 109, 112]
                  · obtain ⟨hd0, hd1⟩ := lit_no hT tl_true
                    obtain ⟨he0, he1⟩ := lit_yes hE tl_emp
                    have HV := Lib.hid (show Pl.scan (ws.drop (k + 2)) true ⟨f, []⟩ = R by rw [← HS.out]; exact (scan_p hlt HX0.out HPF.out HNB.out (.inr hE) ⟨f, []⟩).symm)
                    clear hT hE
                    go_wp2_with fail
                    go_roundw
                    case rel => exact ⟨k + 2, true, f, [], A, none, c, 0, lo2, by omega, by go_num, rfl, HV, by omega, by simp, fun _ => ⟨rfl, rfl, rfl⟩, G2, y5, of, bf, oa, hl1, hl2⟩
                    case measure => simp [intOf]; omega
                  · obtain ⟨hd0, hd1⟩ := lit_no hT tl_true
                    obtain ⟨he0, he1⟩ := lit_no hE tl_emp
                    have HX := Lib.hid (show Pl.pA s = (Pl.noA, false) from HN.out (by rw [← HS.out]; exact scan_n hlt HX0.out HPF.out hT hE _))
                    obtain ⟨p0, p1, f0, f1⟩ := y2.facts
                    go_wp2_with fail
                    refine bodyPost_ret (v := .tuple #[.agg #[.slice none 0 0, .slice none 0 0], .bool false]) (by simp [results, Tryd.results25, go_sem, p0, p1]) rfl (RAs.no HX.out rfl ?_)
                    exact ((G.trans G2).setCell (Nat.le_refl _) _).setCell (Nat.le_refl _) _
            · obtain ⟨ha0, ha1⟩ := lit_no h124 tl_bar
              replace hnb : false = Pl.isBar (ws.drop (k + 1)) := by rw [hnb]; exact (beq_eq_false_iff_ne.2 h124).symm
              have HNB := Lib.hid hnb
              clear hx1 h124 hnb
              cases b1 with
              | true =>
                have HV := Lib.hid (show Pl.scan (ws.drop (k + 2)) false ⟨f ++ [ff], []⟩ = R by rw [← HS.out]; exact (scan_f hlt HX0.out HPF.out HNB.out ⟨f, []⟩).symm)
                go_wp2_with (at_builtin; go_must (refine wpList_append_src _ rfl _ _ 43 rfl (w2.heap.size + 1) 78 i0 _ 3 24 Tryd.underlying43 hi hz0 hz1 hz2 rfl (by omega) _ f.length (f.flatMap fcells) rfl (own_grow of (by repeat (first | exact Grow.refl _ | assumption | refine Grow.alloc ?_ _ | refine Grow.drew ?_ | refine Grow.drewN ?_ _ | refine Grow.trans ?_ (by assumption) | refine Grow.below ?_ (by assumption) (by first | exact Nat.le_refl _ | omega)))) _ 1 1 (fcells ff) rfl rfl (by first | exact Cells.block (heap_alloc_new _ _) | exact Cells.block (heap_snd _ _ _)) (fcells_one ff) (by unfold maxLen; omega) (by omega) (by simp; omega) (f.length + 1) rfl ((f ++ [ff]).flatMap fcells) (by rw [List.flatMap_append]; simp) ?_; intro A9 c9 w12 ho9 _ _ hb9; have y27 := (y5.grow (show Grow _ _ from Grow.alloc (Grow.refl _) _)).bel hb9 (by omega); obtain ⟨j0, j1, e0, e1⟩ := y27.facts; (try have t1n := ((G2.trans (show Grow _ _ from Grow.alloc (Grow.refl _) _)).below hb9 (by omega)).cell t1w); have hs9 := hb9.size; simp only [World.size_alloc] at hs9))
                go_roundw
                case rel => exact ⟨k + 2, false, f ++ [ff], [], A9, none, c9, 0, w12.heap.size, by omega, by go_num, rfl, HV, by simp; omega, by simp, fun _ => ⟨rfl, rfl, rfl⟩, ((G2.trans (show Grow _ _ from Grow.alloc (Grow.refl _) _)).below hb9 (by omega)).setCell (Nat.le_refl _) _, by rw [List.length_append]; exact y27.set0 _, ofacts_snc (own_far_lo (p := ⟨w2.heap.size, 0, none⟩) ho9 (by show w2.heap.size < w2.heap.size + 1; omega) _), by rw [List.length_append]; exact own_bd ho9, ⟨rfl, .inl ⟨rfl, rfl⟩⟩, by omega, by simp [World.setCell]⟩
                case measure => simp [intOf]; omega
              | false =>
                by_cases hT : x = [116, 114, 117, 101]
                · obtain ⟨hd0, hd1⟩ := lit_yes hT tl_true
                  have HV := Lib.hid (show Pl.scan (ws.drop (k + 2)) false ⟨f, []⟩ = R by rw [← HS.out]; exact (scan_p hlt HX0.out HPF.out HNB.out (.inl hT) ⟨f, []⟩).symm)
                  clear hT
                  go_wp2_with fail
                  go_roundw
                  case rel => exact ⟨k + 2, false, f, [], A, none, c, 0, lo2, by omega, by go_num, rfl, HV, by omega, by simp, fun _ => ⟨rfl, rfl, rfl⟩, G2, y5, of, bf, oa, hl1, hl2⟩
                  case measure => simp [intOf]; omega
                · by_cases hE : x = [101, 109, 112]
                  · obtain ⟨hd0, hd1⟩ := lit_no hT tl_true
                    obtain ⟨he0, he1⟩ := lit_yes hE tl_emp
                    have HV := Lib.hid (show Pl.scan (ws.drop (k + 2)) false ⟨f, []⟩ = R by rw [← HS.out]; exact (scan_p hlt HX0.out HPF.out HNB.out (.inr hE) ⟨f, []⟩).symm)
                    clear hT hE
                    go_wp2_with fail
                    go_roundw
                    case rel => exact ⟨k + 2, false, f, [], A, none, c, 0, lo2, by omega, by go_num, rfl, HV, by omega, by simp, fun _ => ⟨rfl, rfl, rfl⟩, G2, y5, of, bf, oa, hl1, hl2⟩
                    case measure => simp [intOf]; omega
                  · obtain ⟨hd0, hd1⟩ := lit_no hT tl_true
                    obtain ⟨he0, he1⟩ := lit_no hE tl_emp
                    have HX := Lib.hid (show Pl.pA s = (Pl.noA, false) from HN.out (by rw [← HS.out]; exact scan_n hlt HX0.out HPF.out hT hE _))
                    obtain ⟨p0, p1, f0, f1⟩ := y2.facts
                    go_wp2_with fail
                    refine bodyPost_ret (v := .tuple #[.agg #[.slice none 0 0, .slice none 0 0], .bool false]) (by simp [results, Tryd.results25, go_sem, p0, p1]) rfl (RAs.no HX.out rfl ?_)
                    exact ((G.trans G2).setCell (Nat.le_refl _) _).setCell (Nat.le_refl _) _
          · have hk3 : ¬ (k : Int) + 1 < (ws.length : Int) := by omega
            have hnb : false = Pl.isBar (ws.drop (k + 1)) := (bar_no h1).symm
            have HNB := Lib.hid hnb
            clear hnb
            cases b1 with
            | true =>
              have HV := Lib.hid (show Pl.scan (ws.drop (k + 2)) false ⟨f ++ [ff], []⟩ = R by rw [← HS.out]; exact (scan_f hlt HX0.out HPF.out HNB.out ⟨f, []⟩).symm)
              go_wp2_with (at_builtin; go_must (refine wpList_append_src _ rfl _ _ 43 rfl (w2.heap.size + 1) 78 i0 _ 3 24 Tryd.underlying43 hi hz0 hz1 hz2 rfl (by omega) _ f.length (f.flatMap fcells) rfl (own_grow of (by repeat (first | exact Grow.refl _ | assumption | refine Grow.alloc ?_ _ | refine Grow.drew ?_ | refine Grow.drewN ?_ _ | refine Grow.trans ?_ (by assumption) | refine Grow.below ?_ (by assumption) (by first | exact Nat.le_refl _ | omega)))) _ 1 1 (fcells ff) rfl rfl (by first | exact Cells.block (heap_alloc_new _ _) | exact Cells.block (heap_snd _ _ _)) (fcells_one ff) (by unfold maxLen; omega) (by omega) (by simp; omega) (f.length + 1) rfl ((f ++ [ff]).flatMap fcells) (by rw [List.flatMap_append]; simp) ?_; intro A9 c9 w12 ho9 _ _ hb9; have y27 := (y5.grow (show Grow _ _ from Grow.alloc (Grow.refl _) _)).bel hb9 (by omega); obtain ⟨j0, j1, e0, e1⟩ := y27.facts; (try have t1n := ((G2.trans (show Grow _ _ from Grow.alloc (Grow.refl _) _)).below hb9 (by omega)).cell t1w); have hs9 := hb9.size; simp only [World.size_alloc] at hs9))
              go_roundw
              case rel => exact ⟨k + 2, false, f ++ [ff], [], A9, none, c9, 0, w12.heap.size, by omega, by go_num, rfl, HV, by simp; omega, by simp, fun _ => ⟨rfl, rfl, rfl⟩, ((G2.trans (show Grow _ _ from Grow.alloc (Grow.refl _) _)).below hb9 (by omega)).setCell (Nat.le_refl _) _, by rw [List.length_append]; exact y27.set0 _, ofacts_snc (own_far_lo (p := ⟨w2.heap.size, 0, none⟩) ho9 (by show w2.heap.size < w2.heap.size + 1; omega) _), by rw [List.length_append]; exact own_bd ho9, ⟨rfl, .inl ⟨rfl, rfl⟩⟩, by omega, by simp [World.setCell]⟩
              case measure => simp [intOf]; omega
            | false =>
              by_cases hT : x = [116, 114, 117, 101]
              · obtain ⟨hd0, hd1⟩ := lit_yes hT tl_true
                have HV := Lib.hid (show Pl.scan (ws.drop (k + 2)) false ⟨f, []⟩ = R by rw [← HS.out]; exact (scan_p hlt HX0.out HPF.out HNB.out (.inl hT) ⟨f, []⟩).symm)
                clear hT
                go_wp2_with fail
                go_roundw
                case rel => exact ⟨k + 2, false, f, [], A, none, c, 0, lo2, by omega, by go_num, rfl, HV, by omega, by simp, fun _ => ⟨rfl, rfl, rfl⟩, G2, y5, of, bf, oa, hl1, hl2⟩
                case measure => simp [intOf]; omega
              · by_cases hE : x = [101, 109, 112]
                · obtain ⟨hd0, hd1⟩ := lit_no hT tl_true
                  obtain ⟨he0, he1⟩ := lit_yes hE tl_emp
                  have HV := Lib.hid (show Pl.scan (ws.drop (k + 2)) false ⟨f, []⟩ = R by rw [← HS.out]; exact (scan_p hlt HX0.out HPF.out HNB.out (.inr hE) ⟨f, []⟩).symm)
                  clear hT hE
                  go_wp2_with fail
                  go_roundw
                  case rel => exact ⟨k + 2, false, f, [], A, none, c, 0, lo2, by omega, by go_num, rfl, HV, by omega, by simp, fun _ => ⟨rfl, rfl, rfl⟩, G2, y5, of, bf, oa, hl1, hl2⟩
                  case measure => simp [intOf]; omega
                · obtain ⟨hd0, hd1⟩ := lit_no hT tl_true
                  obtain ⟨he0, he1⟩ := lit_no hE tl_emp
                  have HX := Lib.hid (show Pl.pA s = (Pl.noA, false) from HN.out (by rw [← HS.out]; exact scan_n hlt HX0.out HPF.out hT hE _))
                  obtain ⟨p0, p1, f0, f1⟩ := y2.facts
                  go_wp2_with fail
                  refine bodyPost_ret (v := .tuple #[.agg #[.slice none 0 0, .slice none 0 0], .bool false]) (by simp [results, Tryd.results25, go_sem, p0, p1]) rfl (RAs.no HX.out rfl ?_)
                  exact ((G.trans G2).setCell (Nat.le_refl _) _).setCell (Nat.le_refl _) _
        | true =>
          clear hsec
          cases b2 with
          | true =>
            obtain rfl : x9 = x0 := hx9 rfl
            have HV := Lib.hid (show Pl.scan (ws.drop (k + 2)) true ⟨f, a ++ [x9]⟩ = R by rw [← HS.out]; exact (scan_x hlt HX0.out HPX.out ⟨f, a⟩).symm)
            obtain ⟨x0, rfl⟩ : ∃ y, y = x9 := ⟨_, rfl⟩
            go_wp2_with (at_builtin; go_must (refine wpList_append_src _ rfl _ _ 44 rfl lo2 82 n0 _ 3 24 Tryd.underlying44 hj hy0 hy1 hy2 rfl (by omega) _ a.length (a.flatMap xcells) rfl (own_grow oa (by repeat (first | exact Grow.refl _ | assumption | refine Grow.alloc ?_ _ | refine Grow.drew ?_ | refine Grow.drewN ?_ _ | refine Grow.trans ?_ (by assumption) | refine Grow.below ?_ (by assumption) (by first | exact Nat.le_refl _ | omega)))) _ 1 1 (xcells x0) rfl rfl (by first | exact Cells.block (heap_alloc_new _ _) | exact Cells.block (heap_snd _ _ _)) (xcells_one x0) (by unfold maxLen; omega) (by omega) (by simp; omega) (a.length + 1) rfl ((a ++ [x0]).flatMap xcells) (by rw [List.flatMap_append]; simp) ?_; intro A9 c9 w12 ho9 _ _ hb9; have y28 := (y5.grow (show Grow _ _ from Grow.alloc (Grow.refl _) _)).bel hb9 (by omega); obtain ⟨j0, j1, e0, e1⟩ := y28.facts; have hs9 := hb9.size; simp only [World.size_alloc] at hs9))
            go_roundw
            case rel => exact ⟨k + 2, true, f, a ++ [x0], A, A9, c, c9, lo2, by omega, by go_num, rfl, HV, by omega, by simp; omega, (fun h => by cases h), ((G2.trans (show Grow _ _ from Grow.alloc (Grow.refl _) _)).below hb9 (by omega)).setCell (Nat.le_refl _) _, by rw [List.length_append]; exact y28.set1 _, own_far_lo (p := ⟨w2.heap.size, 1, none⟩) (own_blw (own_grow of (show Grow _ _ from Grow.alloc (Grow.refl _) _)) hb9 (fun k hk => (bf k hk).2)) (by show w2.heap.size < w2.heap.size + 1; omega) _, bf, oatoms_snc (own_far_lo (p := ⟨w2.heap.size, 1, none⟩) ho9 (by show w2.heap.size < lo2; omega) _), hl1, by simp [World.setCell]; omega⟩
            case measure => simp [intOf]; omega
          | false =>
            by_cases hT : x = [116, 114, 117, 101]
            · obtain ⟨hd0, hd1⟩ := lit_yes hT tl_true
              have HV := Lib.hid (show Pl.scan (ws.drop (k + 2)) true ⟨f, a⟩ = R by rw [← HS.out]; exact (scan_q hlt HX0.out HPX.out (.inl hT) ⟨f, a⟩).symm)
              clear hT
              go_wp2_with fail
              go_roundw
              case rel => exact ⟨k + 2, true, f, a, A, B, c, d, lo2, by omega, by go_num, rfl, HV, by omega, by omega, (fun h => by cases h), G2, y5, of, bf, oa, hl1, hl2⟩
              case measure => simp [intOf]; omega
            · by_cases hE : x = [101, 109, 112]
              · obtain ⟨hd0, hd1⟩ := lit_no hT tl_true
                obtain ⟨he0, he1⟩ := lit_yes hE tl_emp
                have HV := Lib.hid (show Pl.scan (ws.drop (k + 2)) true ⟨f, a⟩ = R by rw [← HS.out]; exact (scan_q hlt HX0.out HPX.out (.inr hE) ⟨f, a⟩).symm)
                clear hT hE
                go_wp2_with fail
                go_roundw
                case rel => exact ⟨k + 2, true, f, a, A, B, c, d, lo2, by omega, by go_num, rfl, HV, by omega, by omega, (fun h => by cases h), G2, y5, of, bf, oa, hl1, hl2⟩
                case measure => simp [intOf]; omega
              · obtain ⟨hd0, hd1⟩ := lit_no hT tl_true
                obtain ⟨he0, he1⟩ := lit_no hE tl_emp
                have HX := Lib.hid (show Pl.pA s = (Pl.noA, false) from HN.out (by rw [← HS.out]; exact scan_m hlt HX0.out HPX.out hT hE _))
                obtain ⟨p0, p1, f0, f1⟩ := y2.facts
                go_wp2_with fail
                refine bodyPost_ret (v := .tuple #[.agg #[.slice none 0 0, .slice none 0 0], .bool false]) (by simp [results, Tryd.results25, go_sem, p0, p1]) rfl (RAs.no HX.out rfl ?_)
                exact ((G.trans G2).setCell (Nat.le_refl _) _).setCell (Nat.le_refl _) _
      · have hk1 : ¬ (k : Int) < (ws.length : Int) := by omega
        have hR : R = some ⟨f, a⟩ := by rw [← HS.out]; exact scan_end hlt _ _
        have CF := Lib.hid (show ∀ W, Asrs W A B ⟨f, a⟩ → Calls Tryd.prog 32 #[.agg #[.slice A f.length c, .slice B a.length d]] W fun e w' => e = .returned (.string (Pl.str (Pl.fmtA ⟨f, a⟩))) ∧ Grow W w' from fun W k => sFormatAssertion_c A B c d ⟨f, a⟩ W k (by show f.length ≤ _; omega) (by show a.length ≤ _; omega))
        have S : Asrs wr A B ⟨f, a⟩ := ⟨OFacts.facts rfl of, OAtoms.atoms rfl oa⟩
        obtain ⟨t, ht⟩ : ∃ t, t = Pl.fmtA ⟨f, a⟩ := ⟨_, rfl⟩
        have HA2 := Lib.hid (show t = s → s ≠ [] → Pl.pA s = (⟨f, a⟩, true) from fun h1 h2 => HA.out _ hR h3 (by rw [← ht]; exact h1) h2)
        have HB2 := Lib.hid (show (t = s → s = []) → Pl.pA s = (Pl.noA, false) from fun h1 => HB.out _ hR (by rw [← ht]; exact h1))
        rw [← ht] at CF
        clear ht hR HS HA HB HN hsec
        obtain ⟨j0, j1, e0, e1⟩ := y5.facts
        go_wp2_with fail
        (with_reducible refine (CF.out _ S).mono ?_)
        rintro e w9 ⟨rfl, g9⟩
        replace y2 := y2.grow (G2.trans g9)
        replace y5 := y5.grow g9
        replace of : OFacts _ (w2.heap.size + 1) (.slice A f.length c) f := own_grow of g9
        replace oa : OAtoms _ lo2 (.slice B a.length d) a := own_grow oa g9
        replace G2 := G2.trans g9
        clear g9 S j0 j1 e0 e1
        by_cases hts : t = s
        · have hc0 := str_yes hts
          have hc1 : (Pl.str t).toList = (Pl.str s).toList := eq_of_beq hc0
          by_cases hs0 : s = []
          · obtain ⟨hd0, hd1⟩ := lit_yes hs0 tl_nil
            have HX := Lib.hid (HB2.out (fun _ => hs0))
            clear hts hs0
            obtain ⟨p0, p1, f0, f1⟩ := y2.facts
            go_wp2_with fail
            refine bodyPost_ret (v := .tuple #[.agg #[.slice none 0 0, .slice none 0 0], .bool false]) (by simp [results, Tryd.results25, go_sem, p0, p1]) rfl (RAs.no HX.out rfl ?_)
            exact ((G.trans G2).setCell (Nat.le_refl _) _).setCell (Nat.le_refl _) _
          · obtain ⟨hd0, hd1⟩ := lit_no hs0 tl_nil
            have HX := Lib.hid (HA2.out hts hs0)
            obtain ⟨j0, j1, e0, e1⟩ := y5.facts
            clear hts hs0
            obtain ⟨p0, p1, f0, f1⟩ := y2.facts
            go_wp2_with fail
            refine bodyPost_ret (v := .tuple #[.agg #[.slice A f.length c, .slice B a.length d], .bool true]) (by simp [results, Tryd.results25, go_sem, p0, p1]) rfl (show RAs w (Pl.pA s) _ _ from ⟨A, B, c, d, by first | (rw [HX.out]; done) | (rw [HX.out]; rfl), ?_, ((G.trans G2).setCell (Nat.le_refl _) _).setCell (Nat.le_refl _) _⟩)
            rw [HX.out]
            have oall : OAs w9 (w2.heap.size + 1) A B c d ⟨f, a⟩ := ⟨of, own_lo oa hl1, fun k h1 h2 => by have h3 := (bf k h1).2; have h4 := (own_bd oa k h2).1; omega⟩
            exact ((oall.far (by show w.heap.size < _; omega) _).far (by show w.heap.size < _; omega) _).lo (by omega)
        · have hc0 := str_no hts
          have hc1 : ¬ (Pl.str t).toList = (Pl.str s).toList := ne_of_beq_false hc0
          have HX := Lib.hid (HB2.out (fun h => absurd h hts))
          clear hts
          obtain ⟨p0, p1, f0, f1⟩ := y2.facts
          go_wp2_with fail
          refine bodyPost_ret (v := .tuple #[.agg #[.slice none 0 0, .slice none 0 0], .bool false]) (by simp [results, Tryd.results25, go_sem, p0, p1]) rfl (RAs.no HX.out rfl ?_)
          exact ((G.trans G2).setCell (Nat.le_refl _) _).setCell (Nat.le_refl _) _
  · have h3' : (300 : Int) < (s.length : Int) := by omega
    have HX := Lib.hid (qA_long h3)
    obtain ⟨p0, p1, f0, f1⟩ := y2.facts
    go_wp2_with fail
    obtain ⟨m0, m1, _, _⟩ := (((y2.set0 (.slice none 0 0)).set1 (.slice none 0 0)).grow (show Grow _ (((w2.setCell ⟨w.heap.size, 0, none⟩ (.slice none 0 0)).setCell ⟨w.heap.size, 1, none⟩ (.slice none 0 0)).alloc (.cells #[.slice none 0 0, .slice none 0 0] 46)) from Grow.alloc (Grow.refl _) _)).facts
    refine bodyPost_ret (v := .tuple #[.agg #[.slice none 0 0, .slice none 0 0], .bool false]) (by simp [results, Tryd.results25, go_sem, m0, m1]) rfl (RAs.no HX.out rfl ?_)
    exact Grow.alloc ((G.setCell (Nat.le_refl _) _).setCell (Nat.le_refl _) _) _

end Go.Proofs.YtifdefkkofngoaaDoor
