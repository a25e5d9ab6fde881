/- Words for atoms in memory; contracts of the laws' own helpers of lists of atoms. Conditions: the lengths are far from Go's bounds. Printed by wip/gen_atm.py out of the facts' texts. -/
import Derived.Test.YtifdefkkofngoaaDoorMark
import Derived.Test.YtifdefkkofngoaaDoorApp
import Derived.Test.YtifdefkkofngoaaDoorPlainAll
namespace Go.Proofs.YtifdefkkofngoaaDoor
open Go.RowKit
set_option linter.unusedVariables false

abbrev xval (f : Pl.Atm) : Value := .agg #[.int .i64 f.k, .int .i64 f.a, .int .i64 f.b]

def xcells (f : Pl.Atm) : List Value := [.int .i64 f.k, .int .i64 f.a, .int .i64 f.b]

def Atoms (w : World) (A : Option Addr) (l : List Pl.Atm) : Prop :=
  l ≠ [] → ∃ b off, A = some ⟨b, off, none⟩ ∧ ∀ i (hi : i < l.length), w.cell? ⟨b, off + i * 3, none⟩ = some (.int .i64 l[i].k) ∧ w.cell? ⟨b, off + i * 3 + 1, none⟩ = some (.int .i64 l[i].a) ∧ w.cell? ⟨b, off + i * 3 + 2, none⟩ = some (.int .i64 l[i].b)

theorem Atoms.grow {w w' : World} {A : Option Addr} {l : List Pl.Atm} (h : Atoms w A l) (hg : Grow w w') : Atoms w' A l := fun hl => by
  obtain ⟨b, off, hA, hc⟩ := h hl
  exact ⟨b, off, hA, fun i hi => ⟨hg.cell (hc i hi).1, hg.cell (hc i hi).2.1, hg.cell (hc i hi).2.2⟩⟩

theorem Atoms.at_ {w : World} {A : Option Addr} {l : List Pl.Atm} (h : Atoms w A l) {k : Nat} (hk : k < l.length) : ∃ b off, A = some ⟨b, off, none⟩ ∧
    w.cell? ⟨b, off + k * 3, none⟩ = some (.int .i64 l[k].k) ∧ w.cell? ⟨b, off + k * 3 + 1, none⟩ = some (.int .i64 l[k].a) ∧ w.cell? ⟨b, off + k * 3 + 2, none⟩ = some (.int .i64 l[k].b) := by
  obtain ⟨b, off, hA, hc⟩ := h (by rintro rfl; simp at hk)
  exact ⟨b, off, hA, hc k hk⟩

theorem Atoms.nil (w : World) (A : Option Addr) : Atoms w A [] := fun h => absurd rfl h

theorem xcells_len (l : List Pl.Atm) : (l.flatMap xcells).length = l.length * 3 := by
  induction l with
  | nil => rfl
  | cons f l ih => rw [List.flatMap_cons, List.length_append, ih, List.length_cons, Nat.add_mul]; simp [xcells]; omega

theorem xcells_get (l : List Pl.Atm) : ∀ i (hi : i < l.length), (l.flatMap xcells)[i * 3]? = some (.int .i64 l[i].k) ∧ (l.flatMap xcells)[i * 3 + 1]? = some (.int .i64 l[i].a) ∧ (l.flatMap xcells)[i * 3 + 2]? = some (.int .i64 l[i].b) := by
  induction l with
  | nil => intro i hi; simp at hi
  | cons f l ih =>
    intro i hi
    cases i with
    | zero => simp [xcells]
    | succ i =>
      have := ih i (by simpa using hi)
      rw [List.flatMap_cons, List.getElem?_append_right (by simp [xcells]; omega), List.getElem?_append_right (by simp [xcells]; omega), List.getElem?_append_right (by simp [xcells]; omega)]
      simp only [xcells, List.length_cons, List.length_nil, List.getElem_cons_succ]
      rw [show (i + 1) * 3 - (0 + 1 + 1 + 1) = i * 3 from by omega, show (i + 1) * 3 + 1 - (0 + 1 + 1 + 1) = i * 3 + 1 from by omega, show (i + 1) * 3 + 2 - (0 + 1 + 1 + 1) = i * 3 + 2 from by omega]
      exact this

theorem xcells_one (f : Pl.Atm) : ∀ u ∈ xcells f, u.oneCell' = true := by
  intro u hu
  simp only [xcells, List.mem_cons, List.not_mem_nil, or_false] at hu
  rcases hu with rfl | rfl | rfl <;> rfl

theorem xcellsL_one (l : List Pl.Atm) : ∀ u ∈ l.flatMap xcells, u.oneCell' = true := by
  intro u hu
  obtain ⟨f, _, hf⟩ := List.mem_flatMap.1 hu
  exact xcells_one f u hf

theorem atom_info : (Tryd.prog.info? 82).map (fun i => (i.zero, i.size, i.bytes)) = some (some (.agg #[.int .i64 0, .int .i64 0, .int .i64 0]), 3, 24) := by kernel_rfl

abbrev OAtoms (w : World) (lo : Nat) (v : Value) (l : List Pl.Atm) : Prop := w.ownsRow lo 82 3 v l.length (l.flatMap xcells)

theorem OAtoms.atoms {w : World} {lo n c : Nat} {A : Option Addr} {l : List Pl.Atm} (hn : n = l.length) (h : OAtoms w lo (.slice A n c) l) : Atoms w A l := by
  subst hn
  intro hl
  obtain ⟨g, hA, _, _, hc⟩ := own_cells h (by intro h0; apply hl; have := xcells_len l; rw [h0] at this; exact List.eq_nil_of_length_eq_zero (by simp at this; omega))
  refine ⟨g, 0, hA, fun i hi => ?_⟩
  obtain ⟨h0, h1, h2⟩ := xcells_get l i hi
  exact ⟨hc _ _ h0, by rw [Nat.add_assoc]; exact hc _ _ h1, by rw [Nat.add_assoc]; exact hc _ _ h2⟩

theorem xcells_cases (l : List Pl.Atm) (w : World) (b off : Nat) (hc : ∀ i (hi : i < l.length), w.cell? ⟨b, off + i * 3, none⟩ = some (.int .i64 l[i].k) ∧ w.cell? ⟨b, off + i * 3 + 1, none⟩ = some (.int .i64 l[i].a) ∧ w.cell? ⟨b, off + i * 3 + 2, none⟩ = some (.int .i64 l[i].b)) :
    ∀ j u, (l.flatMap xcells)[j]? = some u → w.cell? ⟨b, off + j, none⟩ = some u := by
  intro j u hu
  have hj : j < l.length * 3 := by rw [← xcells_len]; exact (List.getElem?_eq_some_iff.1 hu).1
  have hi : j / 3 < l.length := by omega
  obtain ⟨e0, e1, e2⟩ := xcells_get l (j / 3) hi
  obtain ⟨d0, d1, d2⟩ := hc (j / 3) hi
  rcases (show j = j / 3 * 3 ∨ j = j / 3 * 3 + 1 ∨ j = j / 3 * 3 + 2 from by omega) with h | h | h
  · rw [h] at hu ⊢; rw [e0] at hu; rw [← hu]; exact d0
  · rw [h] at hu ⊢; rw [e1] at hu; rw [← hu, ← Nat.add_assoc]; exact d1
  · rw [h] at hu ⊢; rw [e2] at hu; rw [← hu, ← Nat.add_assoc]; exact d2

theorem Atoms.cells {w : World} {A : Option Addr} {l : List Pl.Atm} (h : Atoms w A l) : Cells w A (l.flatMap xcells) := fun hx => by
  obtain ⟨b, off, hA, hc⟩ := h (by rintro rfl; exact hx rfl)
  exact ⟨b, off, hA, xcells_cases l w b off hc⟩

theorem eqAtom_c (f g : Pl.Atm) (w : World) : Calls Tryd.prog 102 #[xval f, xval g] w fun e w' => e = .returned (.bool (decide (f = g))) ∧ Grow w w' := by
  obtain ⟨x, a, b⟩ := f
  obtain ⟨y, c, d⟩ := g
  by_cases h : (⟨x, a, b⟩ : Pl.Atm) = ⟨y, c, d⟩
  · obtain ⟨rfl, rfl, rfl⟩ : x = y ∧ a = c ∧ b = d := by simpa using h
    go_enter Tryd.func102, Tryd.ntmps102
    go_wp2
    go_ret
    exact ⟨by simp, (by repeat (first | exact Grow.refl _ | assumption | refine Grow.alloc ?_ _ | refine Grow.drew ?_ | refine Grow.drewN ?_ _ | refine Grow.trans ?_ (by assumption) | refine Grow.below ?_ (by assumption) (by first | exact Nat.le_refl _ | omega)))⟩
  · have H := Lib.hid (decide_eq_false h)
    go_enter Tryd.func102, Tryd.ntmps102
    go_wp2
    · go_ret; exact ⟨by rw [H.out]; rfl, (by repeat (first | exact Grow.refl _ | assumption | refine Grow.alloc ?_ _ | refine Grow.drew ?_ | refine Grow.drewN ?_ _ | refine Grow.trans ?_ (by assumption) | refine Grow.below ?_ (by assumption) (by first | exact Nat.le_refl _ | omega)))⟩
    · go_ret; exact ⟨by rw [H.out]; rfl, (by repeat (first | exact Grow.refl _ | assumption | refine Grow.alloc ?_ _ | refine Grow.drew ?_ | refine Grow.drewN ?_ _ | refine Grow.trans ?_ (by assumption) | refine Grow.below ?_ (by assumption) (by first | exact Nat.le_refl _ | omega)))⟩
    · go_ret; exact ⟨by rw [H.out]; rfl, (by repeat (first | exact Grow.refl _ | assumption | refine Grow.alloc ?_ _ | refine Grow.drew ?_ | refine Grow.drewN ?_ _ | refine Grow.trans ?_ (by assumption) | refine Grow.below ?_ (by assumption) (by first | exact Nat.le_refl _ | omega)))⟩
    · exact absurd (by simp_all) h

set_option maxRecDepth 4000 in
set_option maxHeartbeats 400000 in
theorem eqAtomS_c (A B : Option Addr) (c d : Nat) (l m : List Pl.Atm) (w : World) (hA : Atoms w A l) (hB : Atoms w B m) (hn : l.length ≤ 4611686018427387904) (hm : m.length ≤ 4611686018427387904) :
    Calls Tryd.prog 69 #[.slice A l.length c, .slice B m.length d] w fun e w' => e = .returned (.bool (decide (l = m))) ∧ Grow w w' := by
  by_cases hlen : l.length = m.length
  · have HL := Lib.hid hlen
    have hb : ((l.length : Int) != (m.length : Int)) = false := by simp [hlen]
    clear hlen
    go_enter Tryd.func69, Tryd.ntmps69
    go_wp2
    go_loopw [5] (fun i wr => ∃ k : Nat, k ≤ l.length ∧ i = .int .i64 k ∧ l.take k = m.take k ∧ Grow w wr) (fun i _ => l.length - (intOf i).toNat)
    case atStart => exact ⟨0, Nat.zero_le _, rfl, by simp, (by repeat (first | exact Grow.refl _ | assumption | refine Grow.alloc ?_ _ | refine Grow.drew ?_ | refine Grow.drewN ?_ _ | refine Grow.trans ?_ (by assumption) | refine Grow.below ?_ (by assumption) (by first | exact Nat.le_refl _ | omega)))⟩
    case round =>
      obtain ⟨k, hk, rfl, hv, hg⟩ := hrel
      have HV := Lib.hid hv
      clear hv
      by_cases hlt : k < l.length
      · have hlm : k < m.length := by have := HL.out; omega
        obtain ⟨b, off, rfl, c0, c1, c2⟩ := (hA.grow hg).at_ hlt
        obtain ⟨b', off', rfl, d0, d1, d2⟩ := (hB.grow hg).at_ hlm
        clear hb
        by_cases he : l[k] = m[k]
        · have HE := Lib.hid he
          clear he
          go_wp2_with fail
          go_still_tail 8, mixed
          change wpList _ _ _ _ _ wr.drew
          go_wp2_with (go_at_call 102; refine (eqAtom_c l[k] m[k] _).mono ?_; rintro e w' ⟨rfl, hg1⟩; rw [decide_eq_true HE.out])
          go_roundw
          case rel => exact ⟨k + 1, by omega, by go_num, take_step hlt hlm HE.out HV.out, (by repeat (first | exact Grow.refl _ | assumption | refine Grow.alloc ?_ _ | refine Grow.drew ?_ | refine Grow.drewN ?_ _ | refine Grow.trans ?_ (by assumption) | refine Grow.below ?_ (by assumption) (by first | exact Nat.le_refl _ | omega)))⟩
          case measure => simp [intOf]; omega
        · have HE := Lib.hid he
          clear he
          go_wp2_with fail
          go_still_tail 8, mixed
          change wpList _ _ _ _ _ wr.drew
          go_wp2_with (go_at_call 102; refine (eqAtom_c l[k] m[k] _).mono ?_; rintro e w' ⟨rfl, hg1⟩; rw [decide_eq_false HE.out])
          go_ret
          exact ⟨by rw [decide_eq_false (list_ne hlt hlm HE.out)]; rfl, (by repeat (first | exact Grow.refl _ | assumption | refine Grow.alloc ?_ _ | refine Grow.drew ?_ | refine Grow.drewN ?_ _ | refine Grow.trans ?_ (by assumption) | refine Grow.below ?_ (by assumption) (by first | exact Nat.le_refl _ | omega)))⟩
      · have H := Lib.hid (show l = m by have h1 := HV.out; have := HL.out; rw [take_eq_all hlt, take_eq_all (by omega)] at h1; exact h1)
        go_wp2
        go_ret
        exact ⟨by rw [decide_eq_true H.out]; rfl, (by repeat (first | exact Grow.refl _ | assumption | refine Grow.alloc ?_ _ | refine Grow.drew ?_ | refine Grow.drewN ?_ _ | refine Grow.trans ?_ (by assumption) | refine Grow.below ?_ (by assumption) (by first | exact Nat.le_refl _ | omega)))⟩
  · have H := Lib.hid (decide_eq_false (fun h : l = m => hlen (by rw [h])))
    have hb : ((l.length : Int) != (m.length : Int)) = true := by simp; omega
    go_enter Tryd.func69, Tryd.ntmps69
    go_wp2
    go_ret
    exact ⟨by rw [H.out]; rfl, (by repeat (first | exact Grow.refl _ | assumption | refine Grow.alloc ?_ _ | refine Grow.drew ?_ | refine Grow.drewN ?_ _ | refine Grow.trans ?_ (by assumption) | refine Grow.below ?_ (by assumption) (by first | exact Nat.le_refl _ | omega)))⟩

def markX (k n : Nat) : List Pl.Atm := (List.range n).map fun i => ⟨((k + 3 * i : Nat) : Int), ((k + 3 * i + 1 : Nat) : Int), ((k + 3 * i + 2 : Nat) : Int)⟩

theorem markX_len (k n : Nat) : (markX k n).length = n := by simp [markX]

theorem markX_snoc (k n : Nat) : markX k (n + 1) = markX k n ++ [⟨((k + 3 * n : Nat) : Int), ((k + 3 * n + 1 : Nat) : Int), ((k + 3 * n + 2 : Nat) : Int)⟩] := by simp [markX, List.range_succ]

theorem markX_get (k n i : Nat) (h : i < (markX k n).length) : (markX k n)[i] = ⟨((k + 3 * i : Nat) : Int), ((k + 3 * i + 1 : Nat) : Int), ((k + 3 * i + 2 : Nat) : Int)⟩ := by simp [markX]

def halfX (k : Nat) (l : List Pl.Atm) (i : Nat) : List Value := (markX k i ++ l.drop i).flatMap xcells

theorem halfX_zero (k : Nat) (l : List Pl.Atm) : halfX k l 0 = l.flatMap xcells := by simp [halfX, markX]

theorem halfX_all (k : Nat) (l : List Pl.Atm) (i : Nat) (h : ¬ i < l.length) (hi : i ≤ l.length) : halfX k l i = (markX k l.length).flatMap xcells := by
  have : i = l.length := by omega
  subst this; simp [halfX]

theorem halfX_set (k : Nat) (l : List Pl.Atm) (i : Nat) (h : i < l.length) :
    (((halfX k l i).set (i * 3) (.int .i64 ((k + 3 * i : Nat) : Int))).set (i * 3 + 1) (.int .i64 ((k + 3 * i + 1 : Nat) : Int))).set (i * 3 + 2) (.int .i64 ((k + 3 * i + 2 : Nat) : Int)) = halfX k l (i + 1) := by
  unfold halfX
  rw [List.drop_eq_getElem_cons h, List.flatMap_append, List.flatMap_cons, show xcells l[i] = [.int .i64 l[i].k, .int .i64 l[i].a, .int .i64 l[i].b] from rfl,
    set_at _ _ _ _ _ _ (by rw [xcells_len, markX_len]), markX_snoc]
  simp [xcells]

theorem halfX_get (k : Nat) (l : List Pl.Atm) (i : Nat) (h : i < l.length) :
    (halfX k l i)[i * 3]? = some (.int .i64 l[i].k) ∧ (halfX k l i)[i * 3 + 1]? = some (.int .i64 l[i].a) ∧ (halfX k l i)[i * 3 + 2]? = some (.int .i64 l[i].b) := by
  unfold halfX
  have h1 : i < (markX k i ++ l.drop i).length := by rw [List.length_append, markX_len, List.length_drop]; omega
  have h2 := xcells_get (markX k i ++ l.drop i) i h1
  have h3 : (markX k i ++ l.drop i)[i] = l[i] := by
    rw [List.getElem_append_right (by rw [markX_len]; omega)]
    simp [markX_len]
  rw [h3] at h2
  exact h2

set_option maxHeartbeats 400000 in
theorem markAtomS_c (A : Option Addr) (c lo : Nat) (l : List Pl.Atm) (k : Nat) (w : World) (hA : OAtoms w lo (.slice A l.length c) l) (hn : l.length ≤ 4194304) (hk : k ≤ 4611686018427387904) :
    Calls Tryd.prog 71 #[.slice A l.length c, .int .i64 k] w fun e w' => e = .returned (.int .i64 ((k + 3 * l.length : Nat) : Int)) ∧ OAtoms w' lo (.slice A l.length c) (markX k l.length) ∧ w.grownBy w' (Value.slice A l.length c).ownBlock := by
  have hml : (markX k l.length).length = l.length := markX_len _ _
  have HA : w.ownsRow lo 82 3 (.slice A l.length c) l.length (halfX k l 0) := by rw [halfX_zero]; exact hA
  clear hA
  suffices h : Calls Tryd.prog 71 #[.slice A l.length c, .int .i64 k] w fun e w' => e = .returned (.int .i64 ((k + 3 * l.length : Nat) : Int)) ∧ w'.ownsRow lo 82 3 (.slice A l.length c) l.length ((markX k l.length).flatMap xcells) ∧ w.grownBy w' (Value.slice A l.length c).ownBlock from
    h.mono fun e w' ⟨a, b, d⟩ => ⟨a, by show World.ownsRow _ _ _ _ _ (markX k l.length).length _; rw [hml]; exact b, d⟩
  clear hml
  go_enter Tryd.func71, Tryd.ntmps71
  go_wp2
  go_loopw [1, 5] (fun q i wr => ∃ j : Nat, j ≤ l.length ∧ i = .int .i64 j ∧ q = .int .i64 ((k + 3 * j : Nat) : Int) ∧ wr.ownsRow lo 82 3 (.slice A l.length c) l.length (halfX k l j) ∧ w.grownBy wr (Value.slice A l.length c).ownBlock) (fun _ i _ => l.length - (intOf i).toNat)
  case atStart => exact ⟨0, Nat.zero_le _, rfl, by simp, HA, World.grownBy.refl _ _⟩
  case round =>
    obtain ⟨j, hj, rfl, rfl, ho, hg⟩ := hrel
    by_cases hlt : j < l.length
    · obtain ⟨g, rfl, hgl, hgs⟩ := own_some ho (by omega)
      obtain ⟨e0, e1, e2⟩ := halfX_get k l j hlt
      have c0 := own_cellAt ho e0
      have c1 := own_cellAt ho e1
      have c2 := own_cellAt ho e2
      have f0 := World.ownsRow.frozenAt ho (j * 3)
      have f1 := World.ownsRow.frozenAt ho (j * 3 + 1)
      have f2 := World.ownsRow.frozenAt ho (j * 3 + 2)
      clear e0 e1 e2
      go_wp2
      go_roundw
      case rel =>
        refine ⟨j + 1, by omega, by go_num, by go_num, ?_, only_setCell (only_setCell (only_setCell hg _ _) _ _) _ _⟩
        have h1 := own_set (own_set (own_set ho (j * 3) (.int .i64 ((k + 3 * j : Nat) : Int))) (j * 3 + 1) (.int .i64 ((k + 3 * j + 1 : Nat) : Int))) (j * 3 + 2) (.int .i64 ((k + 3 * j + 2 : Nat) : Int))
        rw [halfX_set k l j hlt] at h1
        have e0 : ((k : Int) + 3 * (j : Int)) = ((k + 3 * j : Nat) : Int) := by omega
        have e1 : ((k : Int) + 3 * (j : Int) + 1) = ((k + 3 * j + 1 : Nat) : Int) := by omega
        have e2 : ((k : Int) + 3 * (j : Int) + 1 + 1) = ((k + 3 * j + 2 : Nat) : Int) := by omega
        rw [e2, e1, e0]
        exact h1
      case measure => simp [intOf]; omega
    · have H := Lib.hid (halfX_all k l j hlt hj)
      have hjl : j = l.length := by omega
      subst hjl
      go_wp2
      go_ret
      exact ⟨by simp, by rw [← H.out]; exact ho, hg⟩

end Go.Proofs.YtifdefkkofngoaaDoor
