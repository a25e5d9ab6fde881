/- Contract of the program's ParseAssertion. Conditions: the text is shorter than the library's bound; the table of names stands. -/
import Derived.Test.YtifdefkkofngoaaDoorSp
import Derived.Test.YtifdefkkofngoaaDoorAs8
namespace Go.Proofs.YtifdefkkofngoaaDoor
open Go.RowKit
set_option linter.unusedVariables false

def pA4 (f : List Pl.Fct) (R : Option (List Pl.Atm)) : Pl.Asr × Bool := match R with
  | none => (Pl.noA, false)
  | some a => (⟨f, a⟩, true)
def pA3 (r : List UInt8) (R : Option (List Pl.Fct)) : Pl.Asr × Bool := match R with
  | none => (Pl.noA, false)
  | some f => pA4 f (Pl.pXt r)
theorem pA2_3 (l r : List UInt8) : Pl.pA2 l r = pA3 r (Pl.pFt l) := rfl
theorem pFt_no {l : List UInt8} (h : ¬ l = [116, 114, 117, 101]) : Pl.pFt l = Pl.pFs (Lib.split l [32, 38, 32]) [] := by unfold Pl.pFt; rw [if_neg (show ¬ l = Pl.tTrue from h)]; rfl
theorem pXt_no {l : List UInt8} (h : ¬ l = [101, 109, 112]) : Pl.pXt l = Pl.pXs (Lib.split l [32, 42, 32]) [] := by unfold Pl.pXt; rw [if_neg (show ¬ l = Pl.tEmp from h)]; rfl

theorem lit_no {l c : List UInt8} (h : ¬ l = c) (hc : (Pl.str c).toList = c) : ((Pl.str l).toList == c) = false ∧ ¬ (Pl.str l).toList = c := by
  have k := str_no h
  rw [hc] at k
  exact ⟨k, ne_of_beq_false k⟩
theorem lit_yes {l c : List UInt8} (h : l = c) (hc : (Pl.str c).toList = c) : ((Pl.str l).toList == c) = true ∧ (Pl.str l).toList = c := by
  subst h; exact ⟨by rw [hc]; exact beq_self_eq_true _, hc⟩
theorem tl_true : (Pl.str [116, 114, 117, 101]).toList = [116, 114, 117, 101] := by rw [show Pl.str [116, 114, 117, 101] = ⟨#[116, 114, 117, 101]⟩ from rfl]; simp
theorem tl_emp : (Pl.str [101, 109, 112]).toList = [101, 109, 112] := by rw [show Pl.str [101, 109, 112] = ⟨#[101, 109, 112]⟩ from rfl]; simp



set_option maxRecDepth 100000 in
set_option maxHeartbeats 6400000 in
theorem ParseAssertion_c (s : List UInt8) (w : World) (hs : s.length ≤ 2000000) (hT : TabN w) (hM : MaxL w) :
    Calls Tryd.prog 26 #[.string (Pl.str s)] w (RAs w (Pl.pA s)) := by
  obtain ⟨i0, hi, hz0, hz1, hz2⟩ := info_parts fact_info
  obtain ⟨n0, hj, hy0, hy1, hy2⟩ := info_parts atom_info
  have y2 := Box2.new w 46 (.slice none 0 0) (.slice none 0 0)
  have G : Grow w (w.alloc (.cells #[.slice none 0 0, .slice none 0 0] 46)) := (by repeat (first | exact Grow.refl _ | assumption | refine Grow.alloc ?_ _ | refine Grow.drew ?_ | refine Grow.drewN ?_ _ | refine Grow.trans ?_ (by assumption) | refine Grow.below ?_ (by assumption) (by first | exact Nat.le_refl _ | omega)))
  obtain ⟨l, r, fd, hcut⟩ : ∃ l r fd, Lib.cut s [32, 124, 32] = (l, r, fd) := ⟨_, _, _, rfl⟩
  have hll : l.length ≤ 2000000 := by have := cut_len s [32, 124, 32]; rw [hcut] at this; exact Nat.le_trans this hs
  have hrl : r.length ≤ 2000000 := by have := cut_len2 s [32, 124, 32]; rw [hcut] at this; exact Nat.le_trans this hs
  have C0 := Lib.hid (show ∀ W, MaxL W → Calls Tryd.prog 51 #[.string (Pl.str s), .string ⟨#[32, 124, 32]⟩] W fun e w' => e = .returned (.tuple #[.string (Pl.str l), .string (Pl.str r), .bool fd]) ∧ Grow W w' from fun W k => by have := Cut_c s [32, 124, 32] ⟨#[32, 124, 32]⟩ rfl W hs k; rw [hcut] at this; exact this)
  have HP := Lib.hid (show Pl.pA s = if fd then Pl.pA2 l r else (Pl.noA, false) by unfold Pl.pA; rw [show Pl.sepB = [32, 124, 32] from rfl, hcut])
  clear hcut
  go_enter Tryd.func26, Tryd.ntmps26
  go_wp2_with fail
  generalize w.alloc (.cells #[.slice none 0 0, .slice none 0 0] 46) = w1 at *
  refine (C0.out _ (hM.grow G)).mono ?_
  rintro e w2 ⟨rfl, g2⟩
  replace y2 := y2.grow g2
  replace G := G.trans g2
  clear g2 C0
  have hs2 := y2.lt
  cases fd with
  | false =>
    have HX := Lib.hid (show Pl.pA s = (Pl.noA, false) from HP.out)
    obtain ⟨p0, p1, f0, f1⟩ := y2.facts
    go_wp2_with fail
    refine bodyPost_ret (v := .tuple #[.agg #[.slice none 0 0, .slice none 0 0], .bool false]) (by simp [results, Tryd.results26, go_sem, p0, p1]) rfl (RAs.no HX.out rfl ?_)
    exact (G.setCell (Nat.le_refl _) _).setCell (Nat.le_refl _) _
  | true =>
    have y20 := y2
    have G20 := G
    have y7 := Box2.new w2 46 (.slice none 0 0) (.slice none 0 0)
    have q : Grow w2 (w2.alloc (.cells #[.slice none 0 0, .slice none 0 0] 46)) := (by repeat (first | exact Grow.refl _ | assumption | refine Grow.alloc ?_ _ | refine Grow.drew ?_ | refine Grow.drewN ?_ _ | refine Grow.trans ?_ (by assumption) | refine Grow.below ?_ (by assumption) (by first | exact Nat.le_refl _ | omega)))
    replace y2 := y2.grow q
    replace G := G.trans q
    have hs3 := y7.lt
    clear q
    by_cases hl0 : l = [116, 114, 117, 101]
    · obtain ⟨hb0, hb1⟩ := lit_yes hl0 tl_true
      have HPX := Lib.hid (show Pl.pA s = pA4 [] (Pl.pXt r) by rw [HP.out, if_pos rfl, pA2_3, hl0]; rfl)
      obtain ⟨w4, hw4⟩ : ∃ x, x = w2.alloc (.cells #[.slice none 0 0, .slice none 0 0] 46) := ⟨_, rfl⟩
      have hs4 : w2.heap.size < w4.heap.size := by rw [hw4]; exact hs3
      have hwa : w4.heap.size ≤ (w2.alloc (.cells #[.slice none 0 0, .slice none 0 0] 46)).heap.size := by rw [hw4]; exact Nat.le_refl _
      obtain ⟨fl, Af, cf, hfl, y7, ofl⟩ : ∃ (fl : List Pl.Fct) (Af : Option Addr) (cf : Nat), fl = [] ∧ Box2 (w2.alloc (.cells #[.slice none 0 0, .slice none 0 0] 46)) w2.heap.size 46 (.slice Af fl.length cf) (.slice none 0 0) ∧ OFacts (w2.alloc (.cells #[.slice none 0 0, .slice none 0 0] 46)) w4.heap.size (.slice Af fl.length cf) fl := ⟨[], none, 0, rfl, y7, ⟨rfl, .inl ⟨rfl, rfl⟩⟩⟩
      have HPZ := HPX
      rw [← hfl] at HPX
      have hu : fl.length ≤ 12 := by rw [hfl]; simp
      clear hfl hw4 hl0 HP
      by_cases hr0 : r = [101, 109, 112]
      · obtain ⟨hd0, hd1⟩ := lit_yes hr0 tl_emp
        have HX := Lib.hid (show Pl.pA s = (⟨[], []⟩, true) by rw [HPZ.out, hr0]; rfl)
        obtain ⟨p0, p1, f0, f1⟩ := y20.facts
        clear hr0 y2 y7 ofl hwa G hs3
        go_wp2_with fail
        obtain ⟨m0, m1, _, _⟩ := (((y20.set0 (.slice none 0 0)).set1 (.slice none 0 0)).grow (show Grow _ (((w2.setCell ⟨w.heap.size, 0, none⟩ (.slice none 0 0)).setCell ⟨w.heap.size, 1, none⟩ (.slice none 0 0)).alloc (.cells #[.slice none 0 0, .slice none 0 0] 46)) from Grow.alloc (Grow.refl _) _)).facts
        refine bodyPost_ret (v := .tuple #[.agg #[.slice none 0 0, .slice none 0 0], .bool true]) (by simp [results, Tryd.results26, go_sem, m0, m1]) rfl (show RAs w (Pl.pA s) _ _ from ⟨none, none, 0, 0, by first | (rw [HX.out]; done) | (rw [HX.out]; rfl), by rw [HX.out]; exact OAs.emp _ _, ?_⟩)
        first
        | exact Grow.alloc ((G20.setCell (Nat.le_refl _) _).setCell (Nat.le_refl _) _) _
        | exact ((Grow.alloc G20 _).setCell (Nat.le_refl _) _).setCell (Nat.le_refl _) _
      · obtain ⟨hd0, hd1⟩ := lit_no hr0 tl_emp
        go_wp2_with fail
        generalize w2.alloc (.cells #[.slice none 0 0, .slice none 0 0] 46) = wa at *
        have hgg := G
        obtain ⟨hd0, hd1⟩ := lit_no hr0 tl_emp
        obtain ⟨qs, hqs⟩ : ∃ qs, qs = Lib.split r [32, 42, 32] := ⟨_, rfl⟩
        obtain ⟨S, hS⟩ : ∃ R, R = Pl.pXs qs [] := ⟨_, rfl⟩
        have HQR := Lib.hid (show Pl.pA s = pA4 fl S by rw [HPX.out, pXt_no hr0, hS, hqs])
        have hmr := Lib.hid (show ∀ p ∈ qs, p.length ≤ 2000000 from fun p hp => by rw [hqs] at hp; exact Nat.le_trans (split_mem_len hp) hrl)
        have hql : qs.length ≤ 2000001 := by rw [hqs]; have := split_le r [32, 42, 32] (by simp); omega
        have C2 := Lib.hid (show ∀ W, MaxL W → Calls Tryd.prog 48 #[.string (Pl.str r), .string ⟨#[32, 42, 32]⟩] W fun e w' => e = .returned (.slice (some ⟨W.heap.size, 0, none⟩) qs.length qs.length) ∧ w' = W.alloc (.cells (tcells qs).toArray 9) from fun W k => by rw [hqs]; exact Split_c r [32, 42, 32] ⟨#[32, 42, 32]⟩ rfl W hrl (by simp) k)
        have HS0 := Lib.hid (show Pl.pXs (qs.drop 0) [] = S from hS.symm)
        clear hqs hS HPX hr0
        try go_wp2_with fail
        refine (C2.out _ (hM.grow G)).mono ?_
        rintro e wc ⟨rfl, rfl⟩
        have tq := Tb.new wa qs
        have q : Grow wa (wa.alloc (.cells (tcells qs).toArray 9)) := (by repeat (first | exact Grow.refl _ | assumption | refine Grow.alloc ?_ _ | refine Grow.drew ?_ | refine Grow.drewN ?_ _ | refine Grow.trans ?_ (by assumption) | refine Grow.below ?_ (by assumption) (by first | exact Nat.le_refl _ | omega)))
        have bA := own_bd ofl
        replace y2 := y2.grow q
        replace y7 := y7.grow q
        replace ofl : OFacts _ w4.heap.size (.slice Af fl.length cf) fl := own_grow ofl q
        replace G := G.trans q
        clear q C2
        have hsd := tq.lt
        go_wp2_with fail
        generalize wa.alloc (.cells (tcells qs).toArray 9) = wd at *
        go_loopw [60] (fun i wr => ∃ (k : Nat) (z : List Pl.Atm) (A5 : Option Addr) (c5 : Nat), k ≤ qs.length ∧ i = .int .i64 k ∧ Hid (Pl.pXs (qs.drop k) z = S) ∧ z.length ≤ 6 ∧ Grow w wr ∧ wd.heap.size ≤ wr.heap.size ∧ Box2 wr w.heap.size 46 (.slice none 0 0) (.slice none 0 0) ∧ Box2 wr w2.heap.size 46 (.slice Af fl.length cf) (.slice A5 z.length c5) ∧ Tb wr wa.heap.size qs ∧ OFacts wr w4.heap.size (.slice Af fl.length cf) fl ∧ OAtoms wr wd.heap.size (.slice A5 z.length c5) z) (fun i _ => qs.length - (intOf i).toNat)
        case atStart => exact ⟨0, [], none, 0, Nat.zero_le _, rfl, HS0, by simp, G, Nat.le_refl _, y2, y7, tq, ofl, ⟨rfl, .inl ⟨rfl, rfl⟩⟩⟩
        case round =>
          clear G y2 y7 tq HS0 ofl
          obtain ⟨k, z, A5, c5, hk, rfl, HS, hz, G, hwq, y2, y7, tq, ofl, oz⟩ := hrel
          by_cases hlt : k < qs.length
          · have t0 := tq.at_ hlt
            have hpk : qs[k].length ≤ 2000000 := hmr.out _ (List.getElem_mem hlt)
            obtain ⟨x, b, hf⟩ : ∃ f b, Pl.pX qs[k] = (f, b) := ⟨_, _, rfl⟩
            have CP := Lib.hid (show ∀ W, TabN W → MaxL W → Calls Tryd.prog 67 #[.string (Pl.str qs[k])] W fun e w' => e = .returned (.tuple #[.agg #[.int .i64 x.k, .int .i64 x.a, .int .i64 x.b], .bool b]) ∧ Grow W w' from fun W k1 k2 => by have := parseAtom_c qs[k] W hpk k1 k2; rw [hf] at this; exact this)
            have HF := Lib.hid hf
            clear hf
            go_wp2_with fail
            refine (CP.out _ (hT.grow G) (hM.grow G)).mono ?_
            rintro e w7 ⟨rfl, g7⟩
            have y10 := Box3.new w7 82 (.int .i64 x.k) (.int .i64 x.a) (.int .i64 x.b)
            have q : Grow wr (w7.alloc (.cells #[.int .i64 x.k, .int .i64 x.a, .int .i64 x.b] 82)) := (by repeat (first | exact Grow.refl _ | assumption | refine Grow.alloc ?_ _ | refine Grow.drew ?_ | refine Grow.drewN ?_ _ | refine Grow.trans ?_ (by assumption) | refine Grow.below ?_ (by assumption) (by first | exact Nat.le_refl _ | omega)))
            replace y2 := y2.grow q
            replace y7 := y7.grow q
            replace tq := tq.grow q
            replace oz : OAtoms _ wd.heap.size (.slice A5 z.length c5) z := own_grow oz q
            replace ofl : OFacts _ w4.heap.size (.slice Af fl.length cf) fl := own_grow ofl q
            have hq := q.le
            have hq7 := g7.le
            replace G := G.trans q
            clear q g7 t0 CP
            obtain ⟨p0, p1, f0, f1⟩ := y2.facts
            obtain ⟨j0, j1, e0, e1⟩ := y7.facts
            obtain ⟨r0, r1, r2⟩ := y10.facts
            cases b with
            | false =>
              have HX := Lib.hid (show Pl.pA s = (Pl.noA, false) by rw [HQR.out, ← HS.out, pXs_bad hlt HF.out]; rfl)
              go_wp2_with fail
              refine bodyPost_ret (v := .tuple #[.agg #[.slice none 0 0, .slice none 0 0], .bool false]) (by simp [results, Tryd.results26, go_sem, p0, p1]) rfl (RAs.no HX.out rfl ?_)
              exact (G.setCell (Nat.le_refl _) _).setCell (Nat.le_refl _) _
            | true =>
              by_cases h6 : z.length = 6
              · have HX := Lib.hid (show Pl.pA s = (Pl.noA, false) by rw [HQR.out, ← HS.out, pXs_full hlt h6]; rfl)
                have hb6 : ((z.length : Int) == 6) = true := by rw [beq_iff_eq]; omega
                clear h6
                go_wp2_with fail
                refine bodyPost_ret (v := .tuple #[.agg #[.slice none 0 0, .slice none 0 0], .bool false]) (by simp [results, Tryd.results26, go_sem, p0, p1]) rfl (RAs.no HX.out rfl ?_)
                exact (G.setCell (Nat.le_refl _) _).setCell (Nat.le_refl _) _
              · have HV := Lib.hid (show Pl.pXs (qs.drop (k + 1)) (z ++ [x]) = S by rw [← HS.out, pXs_ok hlt HF.out h6])
                have hb6 : ((z.length : Int) == 6) = false := by rw [beq_eq_false_iff_ne]; omega
                have hu1 : z.length < 6 := by omega
                clear h6
                go_wp2_with (at_builtin; go_must (refine wpList_append_src _ rfl _ _ 44 rfl wd.heap.size 82 n0 _ 3 24 Tryd.underlying44 hj hy0 hy1 hy2 rfl (by omega) _ z.length (z.flatMap xcells) rfl (own_grow oz (by repeat (first | exact Grow.refl _ | assumption | refine Grow.alloc ?_ _ | refine Grow.drew ?_ | refine Grow.drewN ?_ _ | refine Grow.trans ?_ (by assumption) | refine Grow.below ?_ (by assumption) (by first | exact Nat.le_refl _ | omega)))) _ 1 1 (xcells x) rfl rfl (by first | exact Cells.block (heap_snd _ _ _) | exact Cells.block (heap_two _ _ _)) (xcells_one x) (by unfold maxLen; omega) (by omega) (by simp; omega) (z.length + 1) rfl ((z ++ [x]).flatMap xcells) (by rw [List.flatMap_append]; simp) ?_; intro A8 c8 w8 ho8 _ _ hb8; have y28 := (y7.grow (show Grow _ _ from Grow.alloc (Grow.refl _) _)).bel hb8 (by omega); obtain ⟨j0, j1, e0, e1⟩ := y28.facts))
                go_roundw
                case rel => exact ⟨k + 1, z ++ [x], A8, c8, by omega, by go_num, HV, by simp; omega, ((G.trans (show Grow _ _ from Grow.alloc (Grow.refl _) _)).below hb8 (by omega)).setCell (by show w.heap.size ≤ w2.heap.size; omega) _, by have := hb8.size; simp only [World.size_alloc] at this; show wd.heap.size ≤ (w8.setCell _ _).heap.size; simp [World.setCell]; omega, ((y2.grow (show Grow _ _ from Grow.alloc (Grow.refl _) _)).bel hb8 (by omega)).far (by show w.heap.size ≠ w2.heap.size; omega) _, by rw [List.length_append]; exact y28.set1 _, ((tq.grow (show Grow _ _ from Grow.alloc (Grow.refl _) _)).bel hb8 (by omega)).far (by show wa.heap.size ≠ w2.heap.size; omega) _, own_far_lo (p := ⟨w2.heap.size, 1, none⟩) (own_blw (own_grow ofl (show Grow _ _ from Grow.alloc (Grow.refl _) _)) hb8 (fun k hk => by have := (bA k hk).2; omega)) (by show w2.heap.size < w4.heap.size; omega) _, oatoms_snc (own_far_lo (p := ⟨w2.heap.size, 1, none⟩) ho8 (by show w2.heap.size < wd.heap.size; omega) _)⟩
                case measure => simp [intOf]; omega
          · have HX := Lib.hid (show Pl.pA s = (⟨fl, z⟩, true) by rw [HQR.out, ← HS.out, pXs_end hlt]; rfl)
            have bZ := own_bd oz
            have oall : OAs wr w4.heap.size Af A5 cf c5 ⟨fl, z⟩ := ⟨ofl, own_lo oz (by omega), fun k h1 h2 => by have := (bA k h1).2; have := (bZ k h2).1; omega⟩
            obtain ⟨p0, p1, f0, f1⟩ := y2.facts
            obtain ⟨j0, j1, e0, e1⟩ := y7.facts
            go_wp2_with fail
            refine bodyPost_ret (v := .tuple #[.agg #[.slice Af fl.length cf, .slice A5 z.length c5], .bool true]) (by simp [results, Tryd.results26, go_sem, p0, p1]) rfl (show RAs w (Pl.pA s) _ _ from ⟨Af, A5, cf, c5, by first | (rw [HX.out]; done) | (rw [HX.out]; rfl), ?_, (G.setCell (Nat.le_refl _) _).setCell (Nat.le_refl _) _⟩)
            rw [HX.out]
            exact ((oall.far (by show w.heap.size < _; omega) _).far (by show w.heap.size < _; omega) _).lo (by omega)
    · obtain ⟨hb0, hb1⟩ := lit_no hl0 tl_true
      obtain ⟨ps, hps⟩ : ∃ ps, ps = Lib.split l [32, 38, 32] := ⟨_, rfl⟩
      obtain ⟨R, hR⟩ : ∃ R, R = Pl.pFs ps [] := ⟨_, rfl⟩
      have HPR := Lib.hid (show Pl.pA s = pA3 r R by rw [HP.out, if_pos rfl, pA2_3, pFt_no hl0, hR, hps])
      have hml := Lib.hid (show ∀ p ∈ ps, p.length ≤ 2000000 from fun p hp => by rw [hps] at hp; exact Nat.le_trans (split_mem_len hp) hll)
      have hpl : ps.length ≤ 2000001 := by rw [hps]; have := split_le l [32, 38, 32] (by simp); omega
      have C1 := Lib.hid (show ∀ W, MaxL W → Calls Tryd.prog 48 #[.string (Pl.str l), .string ⟨#[32, 38, 32]⟩] W fun e w' => e = .returned (.slice (some ⟨W.heap.size, 0, none⟩) ps.length ps.length) ∧ w' = W.alloc (.cells (tcells ps).toArray 9) from fun W k => by rw [hps]; exact Split_c l [32, 38, 32] ⟨#[32, 38, 32]⟩ rfl W hll (by simp) k)
      have HR0 := Lib.hid (show Pl.pFs (ps.drop 0) [] = R from hR.symm)
      clear hps hR HP hl0
      go_wp2_with fail
      generalize w2.alloc (.cells #[.slice none 0 0, .slice none 0 0] 46) = w3 at *
      refine (C1.out _ (hM.grow G)).mono ?_
      rintro e w4 ⟨rfl, rfl⟩
      have tb := Tb.new w3 ps
      have q : Grow w3 (w3.alloc (.cells (tcells ps).toArray 9)) := (by repeat (first | exact Grow.refl _ | assumption | refine Grow.alloc ?_ _ | refine Grow.drew ?_ | refine Grow.drewN ?_ _ | refine Grow.trans ?_ (by assumption) | refine Grow.below ?_ (by assumption) (by first | exact Nat.le_refl _ | omega)))
      replace y2 := y2.grow q
      replace y7 := y7.grow q
      replace G := G.trans q
      clear q C1
      have hs4 := tb.lt
      go_wp2_with fail
      generalize w3.alloc (.cells (tcells ps).toArray 9) = w4 at *
      go_loopw [30] (fun i wr => ∃ (k : Nat) (u : List Pl.Fct) (A3 : Option Addr) (c3 : Nat), k ≤ ps.length ∧ i = .int .i64 k ∧ Hid (Pl.pFs (ps.drop k) u = R) ∧ u.length ≤ 12 ∧ Grow w wr ∧ w4.heap.size ≤ wr.heap.size ∧ Box2 wr w.heap.size 46 (.slice none 0 0) (.slice none 0 0) ∧ Box2 wr w2.heap.size 46 (.slice A3 u.length c3) (.slice none 0 0) ∧ Tb wr w3.heap.size ps ∧ OFacts wr w4.heap.size (.slice A3 u.length c3) u) (fun i _ => ps.length - (intOf i).toNat)
      case atStart => exact ⟨0, [], none, 0, Nat.zero_le _, rfl, HR0, by simp, G, Nat.le_refl _, y2, y7, tb, ⟨rfl, .inl ⟨rfl, rfl⟩⟩⟩
      case round =>
        clear G y2 y7 tb HR0
        obtain ⟨k, u, A3, c3, hk, rfl, HR, hu, G, hwr, y2, y7, tb, ou⟩ := hrel
        by_cases hlt : k < ps.length
        · have t0 := tb.at_ hlt
          have hpk : ps[k].length ≤ 2000000 := hml.out _ (List.getElem_mem hlt)
          obtain ⟨f, b, hf⟩ : ∃ f b, Pl.pF ps[k] = (f, b) := ⟨_, _, rfl⟩
          have CP := Lib.hid (show ∀ W, TabN W → MaxL W → Calls Tryd.prog 66 #[.string (Pl.str ps[k])] W fun e w' => e = .returned (.tuple #[.agg #[.bool f.e, .int .i64 f.a, .int .i64 f.b], .bool b]) ∧ Grow W w' from fun W k1 k2 => by have := ParseFact_c ps[k] W hpk k1 k2; rw [hf] at this; exact this)
          have HF := Lib.hid hf
          clear hf
          go_wp2_with fail
          refine (CP.out _ (hT.grow G) (hM.grow G)).mono ?_
          rintro e w5 ⟨rfl, g5⟩
          have y10 := Box3.new w5 78 (.bool f.e) (.int .i64 f.a) (.int .i64 f.b)
          have q : Grow wr (w5.alloc (.cells #[.bool f.e, .int .i64 f.a, .int .i64 f.b] 78)) := (by repeat (first | exact Grow.refl _ | assumption | refine Grow.alloc ?_ _ | refine Grow.drew ?_ | refine Grow.drewN ?_ _ | refine Grow.trans ?_ (by assumption) | refine Grow.below ?_ (by assumption) (by first | exact Nat.le_refl _ | omega)))
          replace y2 := y2.grow q
          replace y7 := y7.grow q
          replace tb := tb.grow q
          replace ou : OFacts _ w4.heap.size (.slice A3 u.length c3) u := own_grow ou q
          have hq := q.le
          have hq5 := g5.le
          replace G := G.trans q
          clear q g5 t0 CP
          obtain ⟨p0, p1, f0, f1⟩ := y2.facts
          obtain ⟨j0, j1, e0, e1⟩ := y7.facts
          obtain ⟨r0, r1, r2⟩ := y10.facts
          cases b with
          | false =>
            have HX := Lib.hid (show Pl.pA s = (Pl.noA, false) by rw [HPR.out, ← HR.out, pFs_bad hlt HF.out]; rfl)
            go_wp2_with fail
            refine bodyPost_ret (v := .tuple #[.agg #[.slice none 0 0, .slice none 0 0], .bool false]) (by simp [results, Tryd.results26, go_sem, p0, p1]) rfl (RAs.no HX.out rfl ?_)
            exact (G.setCell (Nat.le_refl _) _).setCell (Nat.le_refl _) _
          | true =>
            by_cases h12 : u.length = 12
            · have HX := Lib.hid (show Pl.pA s = (Pl.noA, false) by rw [HPR.out, ← HR.out, pFs_full hlt h12]; rfl)
              have hb12 : ((u.length : Int) == 12) = true := by rw [beq_iff_eq]; omega
              clear h12
              go_wp2_with fail
              refine bodyPost_ret (v := .tuple #[.agg #[.slice none 0 0, .slice none 0 0], .bool false]) (by simp [results, Tryd.results26, go_sem, p0, p1]) rfl (RAs.no HX.out rfl ?_)
              exact (G.setCell (Nat.le_refl _) _).setCell (Nat.le_refl _) _
            · have HV := Lib.hid (show Pl.pFs (ps.drop (k + 1)) (u ++ [f]) = R by rw [← HR.out, pFs_ok hlt HF.out h12])
              have hb12 : ((u.length : Int) == 12) = false := by rw [beq_eq_false_iff_ne]; omega
              have hu1 : u.length < 12 := by omega
              clear h12
              go_wp2_with (at_builtin; go_must (refine wpList_append_src _ rfl _ _ 43 rfl w4.heap.size 78 i0 _ 3 24 Tryd.underlying43 hi hz0 hz1 hz2 rfl (by omega) _ u.length (u.flatMap fcells) rfl (own_grow ou (by repeat (first | exact Grow.refl _ | assumption | refine Grow.alloc ?_ _ | refine Grow.drew ?_ | refine Grow.drewN ?_ _ | refine Grow.trans ?_ (by assumption) | refine Grow.below ?_ (by assumption) (by first | exact Nat.le_refl _ | omega)))) _ 1 1 (fcells f) rfl rfl (by first | exact Cells.block (heap_snd _ _ _) | exact Cells.block (heap_two _ _ _)) (fcells_one f) (by unfold maxLen; omega) (by omega) (by simp; omega) (u.length + 1) rfl ((u ++ [f]).flatMap fcells) (by rw [List.flatMap_append]; simp) ?_; intro A4 c4 w6 ho6 _ _ hb6; have y27 := (y7.grow (show Grow _ _ from Grow.alloc (Grow.refl _) _)).bel hb6 (by omega); obtain ⟨j0, j1, e0, e1⟩ := y27.facts))
              go_roundw
              case rel => exact ⟨k + 1, u ++ [f], A4, c4, by omega, by go_num, HV, by simp; omega, ((G.trans (show Grow _ _ from Grow.alloc (Grow.refl _) _)).below hb6 (by omega)).setCell (by show w.heap.size ≤ w2.heap.size; omega) _, by have := hb6.size; simp only [World.size_alloc] at this; show w4.heap.size ≤ (w6.setCell _ _).heap.size; simp [World.setCell]; omega, ((y2.grow (show Grow _ _ from Grow.alloc (Grow.refl _) _)).bel hb6 (by omega)).far (by show w.heap.size ≠ w2.heap.size; omega) _, by rw [List.length_append]; exact y27.set0 _, ((tb.grow (show Grow _ _ from Grow.alloc (Grow.refl _) _)).bel hb6 (by omega)).far (by show w3.heap.size ≠ w2.heap.size; omega) _, ofacts_snc (own_far_lo (p := ⟨w2.heap.size, 0, none⟩) ho6 (by show w2.heap.size < w4.heap.size; omega) _)⟩
              case measure => simp [intOf]; omega
        · have HPX := Lib.hid (show Pl.pA s = pA4 u (Pl.pXt r) by rw [HPR.out, ← HR.out, pFs_end hlt]; rfl)
          clear HR HPR hml hk tb hpl
          obtain ⟨wa, rfl⟩ : ∃ x, x = wr := ⟨_, rfl⟩
          obtain ⟨fl, rfl⟩ : ∃ x, x = u := ⟨_, rfl⟩
          obtain ⟨Af, rfl⟩ : ∃ x, x = A3 := ⟨_, rfl⟩
          obtain ⟨cf, rfl⟩ : ∃ x, x = c3 := ⟨_, rfl⟩
          have ofl : OFacts wa w4.heap.size (.slice Af fl.length cf) fl := ou
          have hwa : w4.heap.size ≤ wa.heap.size := hwr
          clear ou hwr
          by_cases hr0 : r = [101, 109, 112]
          · have hgg := G
            obtain ⟨hd0, hd1⟩ := lit_yes hr0 tl_emp
            have HX := Lib.hid (show Pl.pA s = (⟨fl, []⟩, true) by rw [HPX.out, hr0]; rfl)
            have oall : OAs _ w4.heap.size Af none cf 0 ⟨fl, []⟩ := ⟨ofl, ⟨rfl, .inl ⟨rfl, rfl⟩⟩, fun k _ h => by cases h⟩
            clear hr0
            obtain ⟨p0, p1, f0, f1⟩ := y2.facts
            obtain ⟨j0, j1, e0, e1⟩ := y7.facts
            go_wp2_with fail
            refine bodyPost_ret (v := .tuple #[.agg #[.slice Af fl.length cf, .slice none 0 0], .bool true]) (by simp [results, Tryd.results26, go_sem, p0, p1]) rfl (show RAs w (Pl.pA s) _ _ from ⟨Af, none, cf, 0, by first | (rw [HX.out]; done) | (rw [HX.out]; rfl), ?_, (G.setCell (Nat.le_refl _) _).setCell (Nat.le_refl _) _⟩)
            rw [HX.out]
            exact ((oall.far (by show w.heap.size < _; omega) _).far (by show w.heap.size < _; omega) _).lo (by omega)
          · have hgg := G
            obtain ⟨hd0, hd1⟩ := lit_no hr0 tl_emp
            obtain ⟨qs, hqs⟩ : ∃ qs, qs = Lib.split r [32, 42, 32] := ⟨_, rfl⟩
            obtain ⟨S, hS⟩ : ∃ R, R = Pl.pXs qs [] := ⟨_, rfl⟩
            have HQR := Lib.hid (show Pl.pA s = pA4 fl S by rw [HPX.out, pXt_no hr0, hS, hqs])
            have hmr := Lib.hid (show ∀ p ∈ qs, p.length ≤ 2000000 from fun p hp => by rw [hqs] at hp; exact Nat.le_trans (split_mem_len hp) hrl)
            have hql : qs.length ≤ 2000001 := by rw [hqs]; have := split_le r [32, 42, 32] (by simp); omega
            have C2 := Lib.hid (show ∀ W, MaxL W → Calls Tryd.prog 48 #[.string (Pl.str r), .string ⟨#[32, 42, 32]⟩] W fun e w' => e = .returned (.slice (some ⟨W.heap.size, 0, none⟩) qs.length qs.length) ∧ w' = W.alloc (.cells (tcells qs).toArray 9) from fun W k => by rw [hqs]; exact Split_c r [32, 42, 32] ⟨#[32, 42, 32]⟩ rfl W hrl (by simp) k)
            have HS0 := Lib.hid (show Pl.pXs (qs.drop 0) [] = S from hS.symm)
            clear hqs hS HPX hr0
            try go_wp2_with fail
            refine (C2.out _ (hM.grow G)).mono ?_
            rintro e wc ⟨rfl, rfl⟩
            have tq := Tb.new wa qs
            have q : Grow wa (wa.alloc (.cells (tcells qs).toArray 9)) := (by repeat (first | exact Grow.refl _ | assumption | refine Grow.alloc ?_ _ | refine Grow.drew ?_ | refine Grow.drewN ?_ _ | refine Grow.trans ?_ (by assumption) | refine Grow.below ?_ (by assumption) (by first | exact Nat.le_refl _ | omega)))
            have bA := own_bd ofl
            replace y2 := y2.grow q
            replace y7 := y7.grow q
            replace ofl : OFacts _ w4.heap.size (.slice Af fl.length cf) fl := own_grow ofl q
            replace G := G.trans q
            clear q C2
            have hsd := tq.lt
            go_wp2_with fail
            generalize wa.alloc (.cells (tcells qs).toArray 9) = wd at *
            go_loopw [60] (fun i wr => ∃ (k : Nat) (z : List Pl.Atm) (A5 : Option Addr) (c5 : Nat), k ≤ qs.length ∧ i = .int .i64 k ∧ Hid (Pl.pXs (qs.drop k) z = S) ∧ z.length ≤ 6 ∧ Grow w wr ∧ wd.heap.size ≤ wr.heap.size ∧ Box2 wr w.heap.size 46 (.slice none 0 0) (.slice none 0 0) ∧ Box2 wr w2.heap.size 46 (.slice Af fl.length cf) (.slice A5 z.length c5) ∧ Tb wr wa.heap.size qs ∧ OFacts wr w4.heap.size (.slice Af fl.length cf) fl ∧ OAtoms wr wd.heap.size (.slice A5 z.length c5) z) (fun i _ => qs.length - (intOf i).toNat)
            case atStart => exact ⟨0, [], none, 0, Nat.zero_le _, rfl, HS0, by simp, G, Nat.le_refl _, y2, y7, tq, ofl, ⟨rfl, .inl ⟨rfl, rfl⟩⟩⟩
            case round =>
              clear G y2 y7 tq HS0 ofl
              obtain ⟨k, z, A5, c5, hk, rfl, HS, hz, G, hwq, y2, y7, tq, ofl, oz⟩ := hrel
              by_cases hlt : k < qs.length
              · have t0 := tq.at_ hlt
                have hpk : qs[k].length ≤ 2000000 := hmr.out _ (List.getElem_mem hlt)
                obtain ⟨x, b, hf⟩ : ∃ f b, Pl.pX qs[k] = (f, b) := ⟨_, _, rfl⟩
                have CP := Lib.hid (show ∀ W, TabN W → MaxL W → Calls Tryd.prog 67 #[.string (Pl.str qs[k])] W fun e w' => e = .returned (.tuple #[.agg #[.int .i64 x.k, .int .i64 x.a, .int .i64 x.b], .bool b]) ∧ Grow W w' from fun W k1 k2 => by have := parseAtom_c qs[k] W hpk k1 k2; rw [hf] at this; exact this)
                have HF := Lib.hid hf
                clear hf
                go_wp2_with fail
                refine (CP.out _ (hT.grow G) (hM.grow G)).mono ?_
                rintro e w7 ⟨rfl, g7⟩
                have y10 := Box3.new w7 82 (.int .i64 x.k) (.int .i64 x.a) (.int .i64 x.b)
                have q : Grow wr (w7.alloc (.cells #[.int .i64 x.k, .int .i64 x.a, .int .i64 x.b] 82)) := (by repeat (first | exact Grow.refl _ | assumption | refine Grow.alloc ?_ _ | refine Grow.drew ?_ | refine Grow.drewN ?_ _ | refine Grow.trans ?_ (by assumption) | refine Grow.below ?_ (by assumption) (by first | exact Nat.le_refl _ | omega)))
                replace y2 := y2.grow q
                replace y7 := y7.grow q
                replace tq := tq.grow q
                replace oz : OAtoms _ wd.heap.size (.slice A5 z.length c5) z := own_grow oz q
                replace ofl : OFacts _ w4.heap.size (.slice Af fl.length cf) fl := own_grow ofl q
                have hq := q.le
                have hq7 := g7.le
                replace G := G.trans q
                clear q g7 t0 CP
                obtain ⟨p0, p1, f0, f1⟩ := y2.facts
                obtain ⟨j0, j1, e0, e1⟩ := y7.facts
                obtain ⟨r0, r1, r2⟩ := y10.facts
                cases b with
                | false =>
                  have HX := Lib.hid (show Pl.pA s = (Pl.noA, false) by rw [HQR.out, ← HS.out, pXs_bad hlt HF.out]; rfl)
                  go_wp2_with fail
                  refine bodyPost_ret (v := .tuple #[.agg #[.slice none 0 0, .slice none 0 0], .bool false]) (by simp [results, Tryd.results26, go_sem, p0, p1]) rfl (RAs.no HX.out rfl ?_)
                  exact (G.setCell (Nat.le_refl _) _).setCell (Nat.le_refl _) _
                | true =>
                  by_cases h6 : z.length = 6
                  · have HX := Lib.hid (show Pl.pA s = (Pl.noA, false) by rw [HQR.out, ← HS.out, pXs_full hlt h6]; rfl)
                    have hb6 : ((z.length : Int) == 6) = true := by rw [beq_iff_eq]; omega
                    clear h6
                    go_wp2_with fail
                    refine bodyPost_ret (v := .tuple #[.agg #[.slice none 0 0, .slice none 0 0], .bool false]) (by simp [results, Tryd.results26, go_sem, p0, p1]) rfl (RAs.no HX.out rfl ?_)
                    exact (G.setCell (Nat.le_refl _) _).setCell (Nat.le_refl _) _
                  · have HV := Lib.hid (show Pl.pXs (qs.drop (k + 1)) (z ++ [x]) = S by rw [← HS.out, pXs_ok hlt HF.out h6])
                    have hb6 : ((z.length : Int) == 6) = false := by rw [beq_eq_false_iff_ne]; omega
                    have hu1 : z.length < 6 := by omega
                    clear h6
                    go_wp2_with (at_builtin; go_must (refine wpList_append_src _ rfl _ _ 44 rfl wd.heap.size 82 n0 _ 3 24 Tryd.underlying44 hj hy0 hy1 hy2 rfl (by omega) _ z.length (z.flatMap xcells) rfl (own_grow oz (by repeat (first | exact Grow.refl _ | assumption | refine Grow.alloc ?_ _ | refine Grow.drew ?_ | refine Grow.drewN ?_ _ | refine Grow.trans ?_ (by assumption) | refine Grow.below ?_ (by assumption) (by first | exact Nat.le_refl _ | omega)))) _ 1 1 (xcells x) rfl rfl (by first | exact Cells.block (heap_snd _ _ _) | exact Cells.block (heap_two _ _ _)) (xcells_one x) (by unfold maxLen; omega) (by omega) (by simp; omega) (z.length + 1) rfl ((z ++ [x]).flatMap xcells) (by rw [List.flatMap_append]; simp) ?_; intro A8 c8 w8 ho8 _ _ hb8; have y28 := (y7.grow (show Grow _ _ from Grow.alloc (Grow.refl _) _)).bel hb8 (by omega); obtain ⟨j0, j1, e0, e1⟩ := y28.facts))
                    go_roundw
                    case rel => exact ⟨k + 1, z ++ [x], A8, c8, by omega, by go_num, HV, by simp; omega, ((G.trans (show Grow _ _ from Grow.alloc (Grow.refl _) _)).below hb8 (by omega)).setCell (by show w.heap.size ≤ w2.heap.size; omega) _, by have := hb8.size; simp only [World.size_alloc] at this; show wd.heap.size ≤ (w8.setCell _ _).heap.size; simp [World.setCell]; omega, ((y2.grow (show Grow _ _ from Grow.alloc (Grow.refl _) _)).bel hb8 (by omega)).far (by show w.heap.size ≠ w2.heap.size; omega) _, by rw [List.length_append]; exact y28.set1 _, ((tq.grow (show Grow _ _ from Grow.alloc (Grow.refl _) _)).bel hb8 (by omega)).far (by show wa.heap.size ≠ w2.heap.size; omega) _, own_far_lo (p := ⟨w2.heap.size, 1, none⟩) (own_blw (own_grow ofl (show Grow _ _ from Grow.alloc (Grow.refl _) _)) hb8 (fun k hk => by have := (bA k hk).2; omega)) (by show w2.heap.size < w4.heap.size; omega) _, oatoms_snc (own_far_lo (p := ⟨w2.heap.size, 1, none⟩) ho8 (by show w2.heap.size < wd.heap.size; omega) _)⟩
                    case measure => simp [intOf]; omega
              · have HX := Lib.hid (show Pl.pA s = (⟨fl, z⟩, true) by rw [HQR.out, ← HS.out, pXs_end hlt]; rfl)
                have bZ := own_bd oz
                have oall : OAs wr w4.heap.size Af A5 cf c5 ⟨fl, z⟩ := ⟨ofl, own_lo oz (by omega), fun k h1 h2 => by have := (bA k h1).2; have := (bZ k h2).1; omega⟩
                obtain ⟨p0, p1, f0, f1⟩ := y2.facts
                obtain ⟨j0, j1, e0, e1⟩ := y7.facts
                go_wp2_with fail
                refine bodyPost_ret (v := .tuple #[.agg #[.slice Af fl.length cf, .slice A5 z.length c5], .bool true]) (by simp [results, Tryd.results26, go_sem, p0, p1]) rfl (show RAs w (Pl.pA s) _ _ from ⟨Af, A5, cf, c5, by first | (rw [HX.out]; done) | (rw [HX.out]; rfl), ?_, (G.setCell (Nat.le_refl _) _).setCell (Nat.le_refl _) _⟩)
                rw [HX.out]
                exact ((oall.far (by show w.heap.size < _; omega) _).far (by show w.heap.size < _; omega) _).lo (by omega)

end Go.Proofs.YtifdefkkofngoaaDoor
