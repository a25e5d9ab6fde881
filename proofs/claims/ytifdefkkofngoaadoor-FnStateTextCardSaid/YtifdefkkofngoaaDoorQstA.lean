/- A digit read, in the program. No conditions. -/
import Derived.Test.YtifdefkkofngoaaDoorPg
import Derived.Test.YtifdefkkofngoaaDoorPa
import Derived.Test.YtifdefkkofngoaaDoorPlainAll
import Derived.Test.YtifdefkkofngoaaDoorFst
import Derived.Test.YtifdefkkofngoaaDoorSp
import Derived.Test.YtifdefkkofngoaaDoorSt6
import Derived.Test.YtifdefkkofngoaaDoorAs8
import Derived.Deep.DeepCutAuto
namespace Go.Proofs.YtifdefkkofngoaaDoor
open Go.RowKit
set_option linter.unusedVariables false

theorem pD_one {c : UInt8} (h1 : 48 ≤ c.toNat) (h2 : c.toNat ≤ 56) : Pl.pD [c] = ((c.toNat : Int) - 48, true) := by
  show (if 48 ≤ c ∧ c ≤ 56 then _ else _) = _
  rw [if_pos ⟨h1, h2⟩]
theorem pD_out {c : UInt8} (h : ¬ (48 ≤ c.toNat ∧ c.toNat ≤ 56)) : Pl.pD [c] = (0, false) := by
  show (if 48 ≤ c ∧ c ≤ 56 then _ else _) = _
  rw [if_neg (fun k => h ⟨k.1, k.2⟩)]
theorem pD_len {s : List UInt8} (h : s.length ≠ 1) : Pl.pD s = (0, false) := by
  unfold Pl.pD
  split
  · exact absurd rfl h
  · rfl

set_option maxRecDepth 100000 in
set_option maxHeartbeats 1600000 in
theorem parseDigit_c (s : List UInt8) (w : World) : Calls Tryd.prog 50 #[.string (Pl.str s)] w fun e w' => e = .returned (.tuple #[.int .i64 (Pl.pD s).1, .bool (Pl.pD s).2]) ∧ w = w' := by
  have hsz : (Pl.str s).size = s.length := Pl.str_size s
  by_cases h1 : s.length = 1
  · obtain ⟨c, rfl⟩ : ∃ c, s = [c] := List.length_eq_one_iff.1 h1
    have hsz1 : (Pl.str [c]).size = 1 := hsz
    have hb : (((Pl.str [c]).size : Int) != 1) = false := by rw [hsz1]; rfl
    have hg : (Pl.str [c])[0]'(by rw [hsz1]; omega) = c := str_get (s := [c]) (by simp) _
    clear h1 hsz
    by_cases h48 : 48 ≤ c.toNat
    · have k48 : ¬ (c.toNat : Int) < 48 := by omega
      by_cases h56 : c.toNat ≤ 56
      · have k56 : ¬ (56 : Int) < (c.toNat : Int) := by omega
        have hw : IntKind.u8.wrap ((c.toNat : Int) - 48) = (c.toNat : Int) - 48 := by rw [IntKind.wrap_u8]; omega
        have hw2 : IntKind.i64.wrap ((c.toNat : Int) - 48) = (c.toNat : Int) - 48 := IntWalk.i64_in _ (by omega)
        have HX := Lib.hid (pD_one h48 h56)
        clear h48 h56
        go_enter Tryd.func50, Tryd.ntmps50
        go_wp2_with fail
        go_ret2
        exact ⟨by rw [HX.out]; rfl, rfl⟩
      · have k56 : (56 : Int) < (c.toNat : Int) := by omega
        have HX := Lib.hid (pD_out (c := c) (by omega))
        go_enter Tryd.func50, Tryd.ntmps50
        go_wp2_with fail
        go_ret2
        exact ⟨by rw [HX.out]; rfl, rfl⟩
    · have k48 : (c.toNat : Int) < 48 := by omega
      have HX := Lib.hid (pD_out (c := c) (by omega))
      go_enter Tryd.func50, Tryd.ntmps50
      go_wp2_with fail
      go_ret2
      exact ⟨by rw [HX.out]; rfl, rfl⟩
  · have hb : (((Pl.str s).size : Int) != 1) = true := by rw [hsz, bne_iff_ne]; omega
    have hb2 : ((s.length : Int) != 1) = true := by rw [bne_iff_ne]; omega
    have HX := Lib.hid (pD_len h1)
    go_enter Tryd.func50, Tryd.ntmps50
    go_wp2_with fail
    go_ret2
    exact ⟨by rw [HX.out]; rfl, rfl⟩

end Go.Proofs.YtifdefkkofngoaaDoor

/- Contract of the program's ParseState. Conditions: the text is shorter than the library's bound; the table of names stands. -/
namespace Go.Proofs.YtifdefkkofngoaaDoor
open Go.RowKit
set_option linter.unusedVariables false

abbrev zero8 : List Int := [0, 0, 0, 0, 0, 0, 0, 0]
theorem three0 (w : World) (a b c : Obj) : (((w.alloc a).alloc b).alloc c).heap[w.heap.size]? = some a := (Below.heap_alloc _ _ _ (by simp; omega)).trans (heap_two w a b)
theorem three1 (w : World) (a b c : Obj) : (((w.alloc a).alloc b).alloc c).heap[w.heap.size + 1]? = some b := (Below.heap_alloc _ _ _ (by simp)).trans (heap_snd w a b)
theorem three2 (w : World) (a b c : Obj) : (((w.alloc a).alloc b).alloc c).heap[w.heap.size + 1 + 1]? = some c := by
  have := heap_alloc_new ((w.alloc a).alloc b) c
  simpa using this
theorem own_at8 {W : World} {g lo : Nat} (h : W.heap[g]? = some (.cells (madeCells #[.int .i64 0] 8) 3 (0, 0))) (hl : lo ≤ g) : OInts W lo (.slice (some ⟨g, 0, none⟩) 8 8) zero8 :=
  ⟨by simp, .inr ⟨g, 8, _, rfl, hl, h, Nat.le_refl _, by unfold maxLen; omega, by rw [size_madeCells], by rw [toList_madeCells_one]; rfl⟩⟩
/-- Two rows of zeros and a box over them were made, in whichever order. -/
def Blank (w : World) (s5 : Value) (W : World) : Prop := ∃ g gA gB : Nat, s5 = Value.pointer (some ⟨g, 0, none⟩) ∧ Box2 W g 27 (.slice (some ⟨gA, 0, none⟩) 8 8) (.slice (some ⟨gB, 0, none⟩) 8 8) ∧ OSt W w.heap.size (some ⟨gA, 0, none⟩) (some ⟨gB, 0, none⟩) 8 8 ⟨zero8, zero8⟩ ∧ w.heap.size ≤ g ∧ g ≠ gA ∧ g ≠ gB ∧ Grow w W
theorem Blank.mk {w W : World} {g gA gB : Nat} {s5 : Value} (h0 : s5 = Value.pointer (some ⟨g, 0, none⟩)) (hg : W.heap[g]? = some (.cells #[.slice (some ⟨gA, 0, none⟩) 8 8, .slice (some ⟨gB, 0, none⟩) 8 8] 27 (0, 0))) (hA : W.heap[gA]? = some (.cells (madeCells #[.int .i64 0] 8) 3 (0, 0))) (hB : W.heap[gB]? = some (.cells (madeCells #[.int .i64 0] 8) 3 (0, 0)))
    (h1 : w.heap.size ≤ g ∧ w.heap.size ≤ gA ∧ w.heap.size ≤ gB) (h2 : g ≠ gA ∧ g ≠ gB ∧ gA ≠ gB) (hG : Grow w W) : Blank w s5 W :=
  ⟨g, gA, gB, h0, hg, ⟨own_at8 hA h1.2.1, own_at8 hB h1.2.2, fun k e1 e2 => h2.2.2 (by injection e1 with e1; injection e2 with e2; exact e1.trans e2.symm)⟩, h1.1, h2.1, h2.2.1, hG⟩

theorem set_take {l : List Int} {k : Nat} (hk : k < l.length) (x : Int) : (l.set k x).take (k + 1) = l.take k ++ [x] := by
  rw [List.take_succ_eq_append_getElem (by rw [List.length_set]; exact hk), List.getElem_set_self, List.take_set_of_le (Nat.le_refl k)]
theorem neg_step {l : List Int} {k : Nat} (h : l.length = 8 ∧ l.take k = List.replicate k (-1)) (hk : k < 8) : (l.set k (-1)).length = 8 ∧ (l.set k (-1)).take (k + 1) = List.replicate (k + 1) (-1) := by
  obtain ⟨h1, h2⟩ := h
  exact ⟨by rw [List.length_set, h1], by rw [set_take (by omega), h2, List.replicate_succ']⟩
theorem neg_done {l : List Int} {k : Nat} (h : l.length = 8 ∧ l.take k = List.replicate k (-1)) (hk : k = 8) : l = Pl.noH := by
  subst hk
  have := h.2
  rw [List.take_of_length_le (by rw [h.1]; exact Nat.le_refl _)] at this
  rw [this]; rfl
theorem pVs_ok {ps : List (List UInt8)} {k : Nat} (hp : 8 ≤ ps.length) (hk : k < 8) {x : List UInt8} (hx : x = ps[k]) {n : Int} (h : Pl.pV k x = some n) (acc : List Int) : Pl.pVs ((ps.take 8).drop k) k acc = Pl.pVs ((ps.take 8).drop (k + 1)) (k + 1) (acc ++ [n]) := by
  have hl : k < (ps.take 8).length := by rw [List.length_take]; omega
  rw [List.drop_eq_getElem_cons hl, Pl.pVs, List.getElem_take, ← hx, h]
theorem pVs_bad {ps : List (List UInt8)} {k : Nat} (hp : 8 ≤ ps.length) (hk : k < 8) {x : List UInt8} (hx : x = ps[k]) (h : Pl.pV k x = none) (acc : List Int) : Pl.pVs ((ps.take 8).drop k) k acc = none := by
  have hl : k < (ps.take 8).length := by rw [List.length_take]; omega
  rw [List.drop_eq_getElem_cons hl, Pl.pVs, List.getElem_take, ← hx, h]
theorem pV_ok {k : Nat} {x pr y : List UInt8} (hpr : pr = Pl.pre k) (hy : y = Lib.trimPrefix x pr) (hf : Lib.hasPrefix x pr = true) {n : Int} (hd : (n, true) = Pl.pD y) : Pl.pV k x = some n := by
  unfold Pl.pV; rw [← hpr, hf, ← hy, ← hd]; rfl
theorem pV_bad1 {k : Nat} {x pr : List UInt8} (hpr : pr = Pl.pre k) (hf : Lib.hasPrefix x pr = false) : Pl.pV k x = none := by
  unfold Pl.pV; rw [← hpr, hf]; rfl
theorem pV_bad2 {k : Nat} {x pr y : List UInt8} (hpr : pr = Pl.pre k) (hy : y = Lib.trimPrefix x pr) {n : Int} (hd : (n, false) = Pl.pD y) : Pl.pV k x = none := by
  unfold Pl.pV; rw [← hpr, ← hy, ← hd, Bool.and_false]; rfl
theorem pHs_ok {ps : List (List UInt8)} {k : Nat} (hk : k < ps.length) {x : List UInt8} (hx : x = ps[k]) {last a n : Int} (hp : Pl.pH x last = some (a, n)) (h : List Int) : Pl.pHs (ps.drop k) last h = Pl.pHs (ps.drop (k + 1)) a (h.set (a - 1).toNat n) := by
  rw [List.drop_eq_getElem_cons hk, Pl.pHs, ← hx, hp]
theorem pHs_bad {ps : List (List UInt8)} {k : Nat} (hk : k < ps.length) {x : List UInt8} (hx : x = ps[k]) {last : Int} (hp : Pl.pH x last = none) (h : List Int) : Pl.pHs (ps.drop k) last h = none := by
  rw [List.drop_eq_getElem_cons hk, Pl.pHs, ← hx, hp]
theorem pH_ok {x l r : List UInt8} (hc : Lib.cut x [62] = (l, r, true)) {a n last : Int} (ha : (a, true) = Pl.pD l) (hn : (n, true) = Pl.pD r) (hl : last < a) : Pl.pH x last = some (a, n) := by
  unfold Pl.pH; rw [hc]; simp only; rw [← ha, ← hn, decide_eq_true hl]; rfl
theorem pH_bad {x l r : List UInt8} {fd ba bn : Bool} (hc : Lib.cut x [62] = (l, r, fd)) {a n last : Int} (ha : (a, ba) = Pl.pD l) (hn : (n, bn) = Pl.pD r) (hl : ¬ (fd = true ∧ ba = true ∧ bn = true ∧ last < a)) : Pl.pH x last = none := by
  unfold Pl.pH; rw [hc]; simp only; rw [← ha, ← hn, if_neg]
  simp only [Bool.and_eq_true, decide_eq_true_iff]
  exact fun h => hl ⟨h.1.1.1, h.1.1.2, h.1.2, h.2⟩

def pS4 (v : List Int) (R : Option (List Int)) : Pl.St × Bool := match R with
  | none => (Pl.emp, false)
  | some h => (⟨v, h⟩, true)
def pS3 (ps : List (List UInt8)) (R : Option (List Int)) : Pl.St × Bool := match R with
  | none => (Pl.emp, false)
  | some v => pS4 v (Pl.pHs (ps.drop 8) 0 Pl.noH)
theorem pS2_3 {ps : List (List UInt8)} (h : ¬ (ps.length < 8 ∨ 16 < ps.length)) : Pl.pS2 ps = pS3 ps (Pl.pVs (ps.take 8) 0 []) := by unfold Pl.pS2; rw [if_neg h]; rfl
theorem made8 (W : World) : (Instr.makeSlice 22 (.int .i64 8) (.int .i64 8)).run Tryd.prog W = .ok (.slice (some ⟨W.heap.size, 0, none⟩) 8 8) (W.alloc (.cells (madeCells #[.int .i64 0] 8) 3)) := by
  obtain ⟨i0, hi, hz0, hz1, hz2⟩ := info_parts int_info
  have h := run_make_rows (P := Tryd.prog) 22 3 i0 _ Tryd.underlying22 hi hz0 .i64 .i64 8 8 (Nat.le_refl _) (by rw [hz2]; omega) (by omega) W
  rw [hz1] at h
  exact h
theorem own_z8 (W : World) : OInts (W.alloc (.cells (madeCells #[.int .i64 0] 8) 3)) W.heap.size (.slice (some ⟨W.heap.size, 0, none⟩) 8 8) zero8 :=
  ⟨by simp, .inr ⟨W.heap.size, 8, _, rfl, Nat.le_refl _, heap_alloc_new W _, Nat.le_refl _, by unfold maxLen; omega, by rw [size_madeCells], by rw [toList_madeCells_one]; rfl⟩⟩



set_option maxRecDepth 100000 in
set_option maxHeartbeats 6400000 in
theorem ParseState_c (s : List UInt8) (w : World) (hs : s.length ≤ 2000000) (hT : TabN w) (hM : MaxL w) :
    Calls Tryd.prog 15 #[.string (Pl.str s)] w (RSt w (Pl.pS s)) := by
  have hmk := made8
  have y2 := Box2.new w 27 (.slice none 0 0) (.slice none 0 0)
  have G : Grow w (w.alloc (.cells #[.slice none 0 0, .slice none 0 0] 27)) := (by repeat (first | exact Grow.refl _ | assumption | refine Grow.alloc ?_ _ | refine Grow.drew ?_ | refine Grow.drewN ?_ _ | refine Grow.trans ?_ (by assumption) | refine Grow.below ?_ (by assumption) (by first | exact Nat.le_refl _ | omega)))
  obtain ⟨ps, hps⟩ : ∃ ps, ps = Lib.split s [32] := ⟨_, rfl⟩
  have C1 := Lib.hid (show ∀ W, MaxL W → Calls Tryd.prog 48 #[.string (Pl.str s), .string ⟨#[32]⟩] W fun e w' => e = .returned (.slice (some ⟨W.heap.size, 0, none⟩) ps.length ps.length) ∧ w' = W.alloc (.cells (tcells ps).toArray 9) from fun W k => by rw [hps]; exact Split_c s [32] ⟨#[32]⟩ rfl W hs (by simp) k)
  have HP := Lib.hid (show Pl.pS s = Pl.pS2 ps by rw [hps]; rfl)
  have hml := Lib.hid (show ∀ p ∈ ps, p.length ≤ 2000000 from fun p hp => by rw [hps] at hp; exact Nat.le_trans (split_mem_len hp) hs)
  have hpl : ps.length ≤ 2000001 := by rw [hps]; have := split_le s [32] (by simp); omega
  clear hps
  go_enter Tryd.func15, Tryd.ntmps15
  go_wp2_with fail
  have hb1 := Lib.hid (show w.heap.size < (w.alloc (.cells #[.slice none 0 0, .slice none 0 0] 27)).heap.size from y2.lt)
  generalize w.alloc (.cells #[.slice none 0 0, .slice none 0 0] 27) = w1 at *
  (with_reducible refine (C1.out _ (hM.grow G)).mono ?_)
  rintro e w4 ⟨rfl, rfl⟩
  have tb := Tb.new w1 ps
  have q : Grow w1 (w1.alloc (.cells (tcells ps).toArray 9)) := (by repeat (first | exact Grow.refl _ | assumption | refine Grow.alloc ?_ _ | refine Grow.drew ?_ | refine Grow.drewN ?_ _ | refine Grow.trans ?_ (by assumption) | refine Grow.below ?_ (by assumption) (by first | exact Nat.le_refl _ | omega)))
  replace y2 := y2.grow q
  replace G := G.trans q
  clear q C1
  have hs4 := tb.lt
  by_cases hn : ps.length < 8 ∨ 16 < ps.length
  · have HX := Lib.hid (show Pl.pS s = (Pl.emp, false) by rw [HP.out]; unfold Pl.pS2; rw [if_pos hn])
    by_cases h8 : ps.length < 8
    · have k8 : (ps.length : Int) < 8 := by omega
      clear hn h8
      obtain ⟨p0, p1, f0, f1⟩ := y2.facts
      go_wp2_with fail
      refine bodyPost_ret (v := .tuple #[.agg #[.slice none 0 0, .slice none 0 0], .bool false]) (by simp [results, Tryd.results15, go_sem, p0, p1]) rfl (RSt.no HX.out rfl ?_)
      exact (G.setCell (Nat.le_refl _) _).setCell (Nat.le_refl _) _
    · have k8 : ¬ (ps.length : Int) < 8 := by omega
      have k16 : (16 : Int) < (ps.length : Int) := by omega
      clear hn h8
      obtain ⟨p0, p1, f0, f1⟩ := y2.facts
      go_wp2_with fail
      refine bodyPost_ret (v := .tuple #[.agg #[.slice none 0 0, .slice none 0 0], .bool false]) (by simp [results, Tryd.results15, go_sem, p0, p1]) rfl (RSt.no HX.out rfl ?_)
      exact (G.setCell (Nat.le_refl _) _).setCell (Nat.le_refl _) _
  · have k8 : ¬ (ps.length : Int) < 8 := by omega
    have k16 : ¬ (16 : Int) < (ps.length : Int) := by omega
    have hp8 : 8 ≤ ps.length := by omega
    have hp16 : ps.length ≤ 16 := by omega
    have HQ := Lib.hid (show Pl.pS s = pS3 ps (Pl.pVs (ps.take 8) 0 []) by rw [HP.out]; exact pS2_3 hn)
    clear hn HP
    go_wp2_with fail
    generalize w1.alloc (.cells (tcells ps).toArray 9) = w4 at *
    go_cut [5] (fun s5 wx => Blank w4 s5 wx)
    case first =>
      go_region
      all_goals
        go_wp2_with fail
        go_meet
        case rel => exact Blank.mk rfl (by first | exact three2 _ _ _ _ | exact three1 _ _ _ _ | exact three0 _ _ _ _) (by first | exact three0 _ _ _ _ | exact three1 _ _ _ _ | exact three2 _ _ _ _) (by first | exact three0 _ _ _ _ | exact three1 _ _ _ _ | exact three2 _ _ _ _) (by omega) (by omega) (by repeat (first | exact Grow.refl _ | assumption | refine Grow.alloc ?_ _ | refine Grow.drew ?_ | refine Grow.drewN ?_ _ | refine Grow.trans ?_ (by assumption) | refine Grow.below ?_ (by assumption) (by first | exact Nat.le_refl _ | omega)))
    case rest =>
      obtain ⟨g, gA, gB, rfl, y5, o5, hg1, hgA, hgB, q⟩ := hcut
      obtain ⟨w5, rfl⟩ : ∃ x : World, x = wc := ⟨_, rfl⟩
      have hsw := y2.lt
      have bA := (own_blk o5.v gA rfl).1
      have bB := (own_blk o5.h gB rfl).1
      have hw1 : w.heap.size ≤ w1.heap.size := by have := hb1.out; omega
      replace y2 := y2.grow q
      replace tb := tb.grow q
      replace G := G.trans q
      clear q
      obtain ⟨j0, j1, _, _⟩ := y5.facts
      go_wp2_with fail
      go_loopw [39] (fun i wr => ∃ (k : Nat) (h : List Int), k ≤ 8 ∧ i = .int .i64 k ∧ Hid (h.length = 8 ∧ h.take k = List.replicate k (-1)) ∧ OSt wr w4.heap.size (some ⟨gA, 0, none⟩) (some ⟨gB, 0, none⟩) 8 8 ⟨zero8, h⟩ ∧ Box2 wr g 27 (.slice (some ⟨gA, 0, none⟩) 8 8) (.slice (some ⟨gB, 0, none⟩) 8 8) ∧ Box2 wr w.heap.size 27 (.slice none 0 0) (.slice none 0 0) ∧ Tb wr w1.heap.size ps ∧ Grow w wr) (fun i _ => 8 - (intOf i).toNat)
      case atStart => exact ⟨0, zero8, Nat.zero_le _, rfl, Lib.hid ⟨rfl, rfl⟩, o5, y5, y2, tb, G⟩
      case round =>
        clear o5 y5 y2 tb G j0 j1
        obtain ⟨k, h, hk, rfl, HH, o5, y5, y2, tb, G⟩ := hrel
        obtain ⟨j0, j1, _, _⟩ := y5.facts
        by_cases hlt : k < 8
        · have hk1 : (k : Int) < 8 := by omega
          have hk2 : (0 : Int) ≤ (k : Int) := by omega
          have hkh : k < h.length := by rw [HH.out.1]; exact hlt
          obtain ⟨z0, c0⟩ : ∃ y, wr.cell? ⟨gB, k, none⟩ = some y := ⟨.int .i64 h[k], own_cellAt o5.h (by simp [hkh])⟩
          have f0 : wr.frozen? ⟨gB, k, none⟩ = false := World.ownsRow.frozenAt o5.h k
          clear hkh
          go_wp2_with fail
          go_roundw
          case rel => exact ⟨k + 1, h.set k (-1), by omega, by go_num, Lib.hid (neg_step HH.out hlt), o5.setH (k := k) (-1), y5.far (p := ⟨gB, k, none⟩) hgB _, y2.far (p := ⟨gB, k, none⟩) (by show w.heap.size ≠ gB; omega) _, tb.far (p := ⟨gB, k, none⟩) (by show w1.heap.size ≠ gB; omega) _, G.setCell (p := ⟨gB, k, none⟩) (by show w.heap.size ≤ gB; omega) _⟩
          case measure => simp [intOf]; omega
        · have hk1 : ¬ (k : Int) < 8 := by omega
          obtain rfl : h = Pl.noH := neg_done HH.out (by omega)
          clear HH hk
          have o6 := o5
          have y6 := y5
          have y3 := y2
          have tb6 := tb
          have G6 := G
          go_wp2_with fail
          clear o5 y5 y2 tb G hlt hk1 j0 j1
          obtain ⟨R, hR⟩ : ∃ R, R = Pl.pVs (ps.take 8) 0 [] := ⟨_, rfl⟩
          have HQ2 := Lib.hid (show Pl.pS s = pS3 ps R by rw [hR]; exact HQ.out)
          have HR0 := Lib.hid (show zero8.length = 8 ∧ Pl.pVs ((ps.take 8).drop 0) 0 (zero8.take 0) = R from ⟨rfl, hR.symm⟩)
          clear hR HQ
          go_loopw [50] (fun i wr => ∃ (k : Nat) (v : List Int), k ≤ 8 ∧ i = .int .i64 k ∧ Hid (v.length = 8 ∧ Pl.pVs ((ps.take 8).drop k) k (v.take k) = R) ∧ OSt wr w4.heap.size (some ⟨gA, 0, none⟩) (some ⟨gB, 0, none⟩) 8 8 ⟨v, Pl.noH⟩ ∧ Box2 wr g 27 (.slice (some ⟨gA, 0, none⟩) 8 8) (.slice (some ⟨gB, 0, none⟩) 8 8) ∧ Box2 wr w.heap.size 27 (.slice none 0 0) (.slice none 0 0) ∧ Tb wr w1.heap.size ps ∧ Grow w wr) (fun i _ => 8 - (intOf i).toNat)
          case atStart => exact ⟨0, zero8, Nat.zero_le _, rfl, HR0, o6, y6, y3, tb6, G6⟩
          case round =>
            clear o6 y6 y3 tb6 G6 HR0
            obtain ⟨k, v, hk, rfl, HV, o5, y5, y2, tb, G⟩ := hrel
            obtain ⟨j0, j1, _, _⟩ := y5.facts
            by_cases hlt : k < 8
            · have hk1 : (k : Int) < 8 := by omega
              have hk2 : (0 : Int) ≤ (k : Int) := by omega
              have hkp : k < ps.length := by omega
              have hkp1 : (k : Int) < (ps.length : Int) := by omega
              have t0 := tb.at_ hkp
              obtain ⟨x, hx⟩ : ∃ x, x = ps[k] := ⟨_, rfl⟩
              rw [← hx] at t0
              have hxl : x.length ≤ 2000000 := by rw [hx]; exact hml.out _ (List.getElem_mem hkp)
              obtain ⟨M, hM1⟩ : ∃ M, M = Pl.nm ((k : Int) + 1) := ⟨_, rfl⟩
              obtain ⟨pr, hpr⟩ : ∃ pr, pr = M ++ [61] := ⟨_, rfl⟩
              have lM : M.length ≤ 3 := by rw [hM1]; exact Pl.nm_len _
              have HPre := Lib.hid (show pr = Pl.pre k by rw [hpr, hM1, nm_succ hlt]; rfl)
              have z0 : (Pl.str M).size = M.length := Pl.str_size M
              have e1 : Pl.str M ++ (⟨#[61]⟩ : ByteArray) = Pl.str pr := by rw [hpr]; exact catC _ _ _ rfl
              have n1 : ¬ (9223372036854775807 < M.length + 1) := by omega
              have hw : IntKind.i64.wrap ((k : Int) + 1) = (k : Int) + 1 := IntWalk.i64_in _ (by omega)
              obtain ⟨y, hy⟩ : ∃ y, y = Lib.trimPrefix x pr := ⟨_, rfl⟩
              obtain ⟨fd, hfd⟩ : ∃ b, b = Lib.hasPrefix x pr := ⟨_, rfl⟩
              obtain ⟨⟨n, b⟩, hd⟩ : ∃ r, r = Pl.pD y := ⟨_, rfl⟩
              have T2 := hT.grow G
              have CT := Lib.hid (show ∀ W, TabN W → Calls Tryd.prog 41 #[.int .i64 ((k : Int) + 1)] W fun e w' => e = .returned (.string (Pl.str M)) ∧ W = w' from fun W t => by rw [hM1]; exact TermName_c _ W t)
              have CP := Lib.hid (show ∀ W, Calls Tryd.prog 49 #[.string (Pl.str x), .string (Pl.str pr)] W fun e w' => e = .returned (.tuple #[.string (Pl.str y), .bool fd]) ∧ W = w' from fun W => by rw [hy, hfd]; exact CutPrefix_c x pr _ rfl W)
              have CD := Lib.hid (show ∀ W, Calls Tryd.prog 50 #[.string (Pl.str y)] W fun e w' => e = .returned (.tuple #[.int .i64 n, .bool b]) ∧ W = w' from fun W => by have := parseDigit_c y W; rw [← hd] at this; exact this)
              have HXX := Lib.hid hx
              have HY := Lib.hid hy
              have HD := Lib.hid hd
              have HF := Lib.hid hfd
              clear hx hM1 hpr hy hd hfd
              go_wp2_with fail
              go_quiet (first | (go_at_call 41; with_reducible exact qcall (CT.out _ (T2.grow (by repeat (first | exact Grow.refl _ | assumption | refine Grow.alloc ?_ _ | refine Grow.drew ?_ | refine Grow.drewN ?_ _ | refine Grow.trans ?_ (by assumption) | refine Grow.below ?_ (by assumption) (by first | exact Nat.le_refl _ | omega)))))) | (go_at_call 49; with_reducible exact qcall (CP.out _)) | fail)
              go_wp2_with fail
              (with_reducible refine (CD.out _).mono ?_)
              rintro e w9 ⟨rfl, rfl⟩
              have gq : Grow wr (wr.drewN nq) := (by repeat (first | exact Grow.refl _ | assumption | refine Grow.alloc ?_ _ | refine Grow.drew ?_ | refine Grow.drewN ?_ _ | refine Grow.trans ?_ (by assumption) | refine Grow.below ?_ (by assumption) (by first | exact Nat.le_refl _ | omega)))
              replace o5 : OSt (wr.drewN nq) w4.heap.size (some ⟨gA, 0, none⟩) (some ⟨gB, 0, none⟩) 8 8 ⟨v, Pl.noH⟩ := o5.grow gq
              replace y5 := y5.grow gq
              replace y2 := y2.grow gq
              replace tb := tb.grow gq
              replace G := G.trans gq
              generalize wr.drewN nq = wq at *
              obtain ⟨j0, j1, _, _⟩ := y5.facts
              cases fd with
              | false =>
                have HX := Lib.hid (show Pl.pS s = (Pl.emp, false) by rw [HQ2.out, ← HV.out.2, pVs_bad hp8 hlt HXX.out (pV_bad1 HPre.out HF.out.symm)]; rfl)
                obtain ⟨p0, p1, f0, f1⟩ := y2.facts
                go_wp2_with fail
                refine bodyPost_ret (v := .tuple #[.agg #[.slice none 0 0, .slice none 0 0], .bool false]) (by simp [results, Tryd.results15, go_sem, p0, p1]) rfl (RSt.no HX.out rfl ?_)
                exact (G.setCell (Nat.le_refl _) _).setCell (Nat.le_refl _) _
              | true =>
                cases b with
                | false =>
                  have HX := Lib.hid (show Pl.pS s = (Pl.emp, false) by rw [HQ2.out, ← HV.out.2, pVs_bad hp8 hlt HXX.out (pV_bad2 HPre.out HY.out HD.out)]; rfl)
                  obtain ⟨p0, p1, f0, f1⟩ := y2.facts
                  go_wp2_with fail
                  refine bodyPost_ret (v := .tuple #[.agg #[.slice none 0 0, .slice none 0 0], .bool false]) (by simp [results, Tryd.results15, go_sem, p0, p1]) rfl (RSt.no HX.out rfl ?_)
                  exact (G.setCell (Nat.le_refl _) _).setCell (Nat.le_refl _) _
                | true =>
                  have hkv : k < v.length := by rw [HV.out.1]; exact hlt
                  have HV2 := Lib.hid (show (v.set k n).length = 8 ∧ Pl.pVs ((ps.take 8).drop (k + 1)) (k + 1) ((v.set k n).take (k + 1)) = R from ⟨by rw [List.length_set, HV.out.1], by rw [set_take hkv, ← pVs_ok hp8 hlt HXX.out (pV_ok HPre.out HY.out HF.out.symm HD.out)]; exact HV.out.2⟩)
                  obtain ⟨z9, c0⟩ : ∃ y, wq.cell? ⟨gA, k, none⟩ = some y := ⟨.int .i64 v[k], own_cellAt o5.v (by simp [hkv])⟩
                  have f0 : wq.frozen? ⟨gA, k, none⟩ = false := World.ownsRow.frozenAt o5.v k
                  clear hkv
                  go_wp2_with fail
                  go_roundw
                  case rel => exact ⟨k + 1, v.set k n, by omega, by go_num, HV2, o5.setV (k := k) n, y5.far (p := ⟨gA, k, none⟩) hgA _, y2.far (p := ⟨gA, k, none⟩) (by show w.heap.size ≠ gA; omega) _, tb.far (p := ⟨gA, k, none⟩) (by show w1.heap.size ≠ gA; omega) _, G.setCell (p := ⟨gA, k, none⟩) (by show w.heap.size ≤ gA; omega) _⟩
                  case measure => simp [intOf]; omega
            · have hk1 : ¬ (k : Int) < 8 := by omega
              obtain ⟨m, hm⟩ : ∃ m, m = ps.length - 8 := ⟨_, rfl⟩
              have hm1 : ps.length = 8 + m := by omega
              obtain ⟨R2, hR2⟩ : ∃ R2, R2 = Pl.pHs (ps.drop 8) 0 Pl.noH := ⟨_, rfl⟩
              have HV8 := Lib.hid HV.out.1
              have HQ3 := Lib.hid (show Pl.pS s = pS4 v R2 by
                have h1 := HV.out.1
                have h2 := HV.out.2
                rw [List.drop_eq_nil_of_le (by rw [List.length_take]; omega), Pl.pVs, List.take_of_length_le (by omega)] at h2
                rw [HQ2.out, ← h2, hR2]; rfl)
              have HR0 := Lib.hid (show Pl.noH.length = 8 ∧ Pl.pHs (ps.drop (8 + 0)) 0 Pl.noH = R2 from ⟨rfl, hR2.symm⟩)
              clear hR2 HQ2 HV hm
              have o6 := o5
              have y6 := y5
              have y3 := y2
              have tb6 := tb
              have G6 := G
              by_cases hm0 : m = 0
              · subst hm0
                go_wp2_with fail
                clear o5 y5 y2 tb G hk1 j0 j1
                go_loopw [12, 86] (fun l i wr => ∃ (j : Nat) (last : Int) (h : List Int), j ≤ 0 ∧ i = .int .i64 j ∧ l = .int .i64 last ∧ (0 ≤ last ∧ last ≤ 8) ∧ Hid (h.length = 8 ∧ Pl.pHs (ps.drop (8 + j)) last h = R2) ∧ OSt wr w4.heap.size (some ⟨gA, 0, none⟩) (some ⟨gB, 0, none⟩) 8 8 ⟨v, h⟩ ∧ Box2 wr g 27 (.slice (some ⟨gA, 0, none⟩) 8 8) (.slice (some ⟨gB, 0, none⟩) 8 8) ∧ Box2 wr w.heap.size 27 (.slice none 0 0) (.slice none 0 0) ∧ Tb wr w1.heap.size ps ∧ Grow w wr) (fun _ i _ => 0 - (intOf i).toNat)
                case atStart => exact ⟨0, 0, Pl.noH, Nat.zero_le _, rfl, rfl, by omega, HR0, o6, y6, y3, tb6, G6⟩
                case round =>
                  clear o6 y6 y3 tb6 G6 HR0
                  obtain ⟨j, last, h, hj, rfl, rfl, hla0, HH, o5, y5, y2, tb, G⟩ := hrel
                  have hj1 : ¬ (j : Int) < 0 := by omega
                  have HX := Lib.hid (show Pl.pS s = (⟨v, h⟩, true) by
                    have h2 := HH.out.2
                    rw [List.drop_eq_nil_of_le (by omega), Pl.pHs] at h2
                    rw [HQ3.out, ← h2]; rfl)
                  obtain ⟨p0, p1, f0, f1⟩ := y2.facts
                  obtain ⟨j0, j1, e0, e1⟩ := y5.facts
                  go_wp2_with fail
                  refine bodyPost_ret (v := .tuple #[.agg #[.slice (some ⟨gA, 0, none⟩) 8 8, .slice (some ⟨gB, 0, none⟩) 8 8], .bool true]) (by simp [results, Tryd.results15, go_sem, p0, p1]) rfl (show RSt w (Pl.pS s) _ _ from ⟨some ⟨gA, 0, none⟩, some ⟨gB, 0, none⟩, 8, 8, ?_, ?_, (G.setCell (Nat.le_refl _) _).setCell (Nat.le_refl _) _⟩)
                  · rw [HX.out]
                    show _ = Ending.returned (.tuple #[.agg #[.slice _ v.length 8, .slice _ h.length 8], .bool true])
                    rw [HV8.out, HH.out.1]
                  · rw [HX.out]
                    exact ((o5.far (by show w.heap.size < _; omega) _).far (by show w.heap.size < _; omega) _).lo (by omega)
              · have hm9 : 0 < m := by omega
                go_wp2_with fail
                clear o5 y5 y2 tb G hk1 j0 j1
                go_loopw [12, 86] (fun l i wr => ∃ (j : Nat) (last : Int) (h : List Int), j ≤ m ∧ i = .int .i64 j ∧ l = .int .i64 last ∧ (0 ≤ last ∧ last ≤ 8) ∧ Hid (h.length = 8 ∧ Pl.pHs (ps.drop (8 + j)) last h = R2) ∧ OSt wr w4.heap.size (some ⟨gA, 0, none⟩) (some ⟨gB, 0, none⟩) 8 8 ⟨v, h⟩ ∧ Box2 wr g 27 (.slice (some ⟨gA, 0, none⟩) 8 8) (.slice (some ⟨gB, 0, none⟩) 8 8) ∧ Box2 wr w.heap.size 27 (.slice none 0 0) (.slice none 0 0) ∧ Tb wr w1.heap.size ps ∧ Grow w wr) (fun _ i _ => m - (intOf i).toNat)
                case atStart => exact ⟨0, 0, Pl.noH, Nat.zero_le _, rfl, rfl, by omega, HR0, o6, y6, y3, tb6, G6⟩
                case round =>
                  clear o6 y6 y3 tb6 G6 HR0
                  obtain ⟨j, last, h, hj, rfl, rfl, hla0, HH, o5, y5, y2, tb, G⟩ := hrel
                  by_cases hlt : j < m
                  · have hj1 : (j : Int) < (m : Int) := by omega
                    have hj2 : (0 : Int) ≤ (j : Int) := by omega
                    have hkp : 8 + j < ps.length := by omega
                    have t0 := tb.at_ hkp
                    obtain ⟨x, hx⟩ : ∃ x, x = ps[8 + j] := ⟨_, rfl⟩
                    rw [← hx] at t0
                    have hxl : x.length ≤ 2000000 := by rw [hx]; exact hml.out _ (List.getElem_mem hkp)
                    obtain ⟨l, r, fd, hcut⟩ : ∃ l r fd, Lib.cut x [62] = (l, r, fd) := ⟨_, _, _, rfl⟩
                    obtain ⟨⟨a, ba⟩, ha⟩ : ∃ r, r = Pl.pD l := ⟨_, rfl⟩
                    obtain ⟨⟨n, bn⟩, hn⟩ : ∃ q, q = Pl.pD r := ⟨_, rfl⟩
                    have CC := Lib.hid (show ∀ W, MaxL W → Calls Tryd.prog 51 #[.string (Pl.str x), .string ⟨#[62]⟩] W fun e w' => e = .returned (.tuple #[.string (Pl.str l), .string (Pl.str r), .bool fd]) ∧ Grow W w' from fun W k => by have := Cut_c x [62] ⟨#[62]⟩ rfl W hxl k; rw [hcut] at this; exact this)
                    have CA := Lib.hid (show ∀ W, Calls Tryd.prog 50 #[.string (Pl.str l)] W fun e w' => e = .returned (.tuple #[.int .i64 a, .bool ba]) ∧ W = w' from fun W => by have := parseDigit_c l W; rw [← ha] at this; exact this)
                    have CB := Lib.hid (show ∀ W, Calls Tryd.prog 50 #[.string (Pl.str r)] W fun e w' => e = .returned (.tuple #[.int .i64 n, .bool bn]) ∧ W = w' from fun W => by have := parseDigit_c r W; rw [← hn] at this; exact this)
                    have HXX := Lib.hid hx
                    have HC := Lib.hid hcut
                    have HA := Lib.hid ha
                    have HN := Lib.hid hn
                    clear hx hcut ha hn
                    go_wp2_with fail
                    (with_reducible refine (CC.out _ (hM.grow G)).mono ?_)
                    rintro e wq ⟨rfl, gq⟩
                    replace o5 : OSt wq w4.heap.size (some ⟨gA, 0, none⟩) (some ⟨gB, 0, none⟩) 8 8 ⟨v, h⟩ := o5.grow gq
                    replace y5 := y5.grow gq
                    replace y2 := y2.grow gq
                    replace tb := tb.grow gq
                    replace G := G.trans gq
                    clear gq CC t0
                    go_wp2_with fail
                    (with_reducible refine (CA.out _).mono ?_)
                    rintro e w9 ⟨rfl, rfl⟩
                    go_wp2_with fail
                    (with_reducible refine (CB.out _).mono ?_)
                    rintro e w9 ⟨rfl, rfl⟩
                    clear CA CB
                    obtain ⟨j0, j1, _, _⟩ := y5.facts
                    have HBad := Lib.hid (show ¬ (fd = true ∧ ba = true ∧ bn = true ∧ last < a) → Pl.pS s = (Pl.emp, false) from fun hh => by rw [HQ3.out, ← HH.out.2, pHs_bad hkp HXX.out (pH_bad HC.out HA.out HN.out hh)]; rfl)
                    cases fd with
                    | false =>
                      have HX := Lib.hid (HBad.out (fun hh => by cases hh.1))
                      obtain ⟨p0, p1, f0, f1⟩ := y2.facts
                      go_wp2_with fail
                      refine bodyPost_ret (v := .tuple #[.agg #[.slice none 0 0, .slice none 0 0], .bool false]) (by simp [results, Tryd.results15, go_sem, p0, p1]) rfl (RSt.no HX.out rfl ?_)
                      exact (G.setCell (Nat.le_refl _) _).setCell (Nat.le_refl _) _
                    | true =>
                      cases ba with
                      | false =>
                        have HX := Lib.hid (HBad.out (fun hh => by cases hh.2.1))
                        obtain ⟨p0, p1, f0, f1⟩ := y2.facts
                        go_wp2_with fail
                        refine bodyPost_ret (v := .tuple #[.agg #[.slice none 0 0, .slice none 0 0], .bool false]) (by simp [results, Tryd.results15, go_sem, p0, p1]) rfl (RSt.no HX.out rfl ?_)
                        exact (G.setCell (Nat.le_refl _) _).setCell (Nat.le_refl _) _
                      | true =>
                        cases bn with
                        | false =>
                          have HX := Lib.hid (HBad.out (fun hh => by cases hh.2.2.1))
                          obtain ⟨p0, p1, f0, f1⟩ := y2.facts
                          go_wp2_with fail
                          refine bodyPost_ret (v := .tuple #[.agg #[.slice none 0 0, .slice none 0 0], .bool false]) (by simp [results, Tryd.results15, go_sem, p0, p1]) rfl (RSt.no HX.out rfl ?_)
                          exact (G.setCell (Nat.le_refl _) _).setCell (Nat.le_refl _) _
                        | true =>
                          by_cases hla : last < a
                          · have hra := (Pl.pD_sound (HA.out.symm)).1
                            have HOK := Lib.hid (pHs_ok hkp HXX.out (pH_ok HC.out HA.out HN.out hla) h)
                            clear HA HC HN HBad
                            obtain ⟨i, hi⟩ : ∃ i : Nat, a = (i : Int) + 1 := ⟨(a - 1).toNat, by omega⟩
                            subst hi
                            have hi8 : i < 8 := by omega
                            have hla' : ¬ (i : Int) + 1 ≤ last := by omega
                            have hi1 : (i : Int) < 8 := by omega
                            have hi2 : (0 : Int) ≤ (i : Int) := by omega
                            have hw : IntKind.i64.wrap ((i : Int) + 1 - 1) = (i : Int) := by rw [IntWalk.i64_in _ (by omega)]; omega
                            have hw2 : IntKind.i64.wrap (i : Int) = (i : Int) := IntWalk.i64_in _ (by omega)
                            have hkh : i < h.length := by rw [HH.out.1]; exact hi8
                            have HV3 := Lib.hid (show (h.set i n).length = 8 ∧ Pl.pHs (ps.drop (8 + (j + 1))) ((i : Int) + 1) (h.set i n) = R2 from ⟨by rw [List.length_set, HH.out.1], by
                              have hh := HOK.out
                              rw [show ((i : Int) + 1 - 1).toNat = i from by omega] at hh
                              rw [← HH.out.2, hh]; rfl⟩)
                            obtain ⟨z9, c0⟩ : ∃ y, wq.cell? ⟨gB, i, none⟩ = some y := ⟨.int .i64 h[i], own_cellAt o5.h (by simp [hkh])⟩
                            have f0 : wq.frozen? ⟨gB, i, none⟩ = false := World.ownsRow.frozenAt o5.h i
                            clear hkh
                            go_wp2_with fail
                            go_roundw
                            case rel => exact ⟨j + 1, (i : Int) + 1, h.set i n, by omega, by go_num, rfl, by omega, HV3, o5.setH (k := i) n, y5.far (p := ⟨gB, i, none⟩) hgB _, y2.far (p := ⟨gB, i, none⟩) (by show w.heap.size ≠ gB; omega) _, tb.far (p := ⟨gB, i, none⟩) (by show w1.heap.size ≠ gB; omega) _, G.setCell (p := ⟨gB, i, none⟩) (by show w.heap.size ≤ gB; omega) _⟩
                            case measure => simp [intOf]; omega
                          · have hla' : a ≤ last := by omega
                            have HX := Lib.hid (HBad.out (fun hh => hla hh.2.2.2))
                            obtain ⟨p0, p1, f0, f1⟩ := y2.facts
                            go_wp2_with fail
                            refine bodyPost_ret (v := .tuple #[.agg #[.slice none 0 0, .slice none 0 0], .bool false]) (by simp [results, Tryd.results15, go_sem, p0, p1]) rfl (RSt.no HX.out rfl ?_)
                            exact (G.setCell (Nat.le_refl _) _).setCell (Nat.le_refl _) _
                  · have hj1 : ¬ (j : Int) < (m : Int) := by omega
                    have HX := Lib.hid (show Pl.pS s = (⟨v, h⟩, true) by
                      have h2 := HH.out.2
                      rw [List.drop_eq_nil_of_le (by omega), Pl.pHs] at h2
                      rw [HQ3.out, ← h2]; rfl)
                    obtain ⟨p0, p1, f0, f1⟩ := y2.facts
                    obtain ⟨j0, j1, e0, e1⟩ := y5.facts
                    go_wp2_with fail
                    refine bodyPost_ret (v := .tuple #[.agg #[.slice (some ⟨gA, 0, none⟩) 8 8, .slice (some ⟨gB, 0, none⟩) 8 8], .bool true]) (by simp [results, Tryd.results15, go_sem, p0, p1]) rfl (show RSt w (Pl.pS s) _ _ from ⟨some ⟨gA, 0, none⟩, some ⟨gB, 0, none⟩, 8, 8, ?_, ?_, (G.setCell (Nat.le_refl _) _).setCell (Nat.le_refl _) _⟩)
                    · rw [HX.out]
                      show _ = Ending.returned (.tuple #[.agg #[.slice _ v.length 8, .slice _ h.length 8], .bool true])
                      rw [HV8.out, HH.out.1]
                    · rw [HX.out]
                      exact ((o5.far (by show w.heap.size < _; omega) _).far (by show w.heap.size < _; omega) _).lo (by omega)

end Go.Proofs.YtifdefkkofngoaaDoor
