/- Contract of newTermUnion: the structure in which the equalities of valid facts hold. Conditions: the facts are valid, the length is far from the bounds. -/
import Derived.Test.YtcpkmnlhenbnlaaFactU
namespace Go.Proofs.Ytcpkmnlhenbnlaa
open Go.RowKit
set_option linter.unusedVariables false

def uarr (u : Nat → Nat) : Array Value := #[.int .i64 ((u 0 : Nat) : Int), .int .i64 ((u 1 : Nat) : Int), .int .i64 ((u 2 : Nat) : Int), .int .i64 ((u 3 : Nat) : Int), .int .i64 ((u 4 : Nat) : Int), .int .i64 ((u 5 : Nat) : Int), .int .i64 ((u 6 : Nat) : Int), .int .i64 ((u 7 : Nat) : Int), .int .i64 ((u 8 : Nat) : Int)]
theorem UF.made (w : World) (u : Nat → Nat) : UF (w.alloc (.cells (uarr u) 54)) w.heap.size u := by
  refine ⟨uarr u, heap_alloc_new w _, fun i hi => ?_⟩
  rcases (show i = 0 ∨ i = 1 ∨ i = 2 ∨ i = 3 ∨ i = 4 ∨ i = 5 ∨ i = 6 ∨ i = 7 ∨ i = 8 from by omega) with rfl | rfl | rfl | rfl | rfl | rfl | rfl | rfl | rfl <;> rfl
theorem UF.of_part {w : World} {g : Nat} (h : Part w g 54 9 1 ((List.range 9).map fun (i : Nat) => Value.int .i64 (i : Int))) : UF w g id := by
  obtain ⟨cur, h1, h2, h3⟩ := h
  refine ⟨cur, h1, fun i hi => ?_⟩
  have h4 : ((List.range 9).map fun (i : Nat) => Value.int .i64 (i : Int))[i]? = some (.int .i64 ((id i : Nat) : Int)) := by
    rcases (show i = 0 ∨ i = 1 ∨ i = 2 ∨ i = 3 ∨ i = 4 ∨ i = 5 ∨ i = 6 ∨ i = 7 ∨ i = 8 from by omega) with rfl | rfl | rfl | rfl | rfl | rfl | rfl | rfl | rfl <;> rfl
  rw [← h3, List.getElem?_take] at h4
  split at h4
  · simpa using h4
  · cases h4

set_option maxHeartbeats 800000 in
theorem newTermUnion_c (A : Option Addr) (d : Nat) (l : List Pl.Fct) (w : World) (hA : Facts w A l) (hn : l.length ≤ 4611686018427387904) (hf : ∀ f ∈ l, Pl.fv f = true) :
    Calls Try.prog 45 #[.slice A l.length d] w fun e w' => ∃ u, e = .returned (.agg (uarr u)) ∧ UFC u (Pl.cls l) ∧ Grow w w' := by
  have HF := Lib.hid hf
  clear hf
  go_enter Try.func45, Try.ntmps45
  go_wp2
  go_loopw [7] (fun i wr => ∃ k : Nat, k ≤ 9 ∧ i = .int .i64 k ∧ Grow w wr ∧ Part wr w.heap.size 54 9 1 [] ∧ Part wr (w.heap.size + 1) 54 9 1 ((List.range k).map fun (i : Nat) => Value.int .i64 (i : Int))) (fun i _ => 9 - (intOf i).toNat)
  case atStart =>
    have h0 := (Part.made w 54 9 1 #[.int .i64 0, .int .i64 0, .int .i64 0, .int .i64 0, .int .i64 0, .int .i64 0, .int .i64 0, .int .i64 0, .int .i64 0] rfl).grow (Grow.alloc (Grow.refl _) (.cells #[.int .i64 0, .int .i64 0, .int .i64 0, .int .i64 0, .int .i64 0, .int .i64 0, .int .i64 0, .int .i64 0, .int .i64 0] 54))
    refine ⟨0, by omega, rfl, (by repeat (first | exact Grow.refl _ | assumption | refine Grow.alloc ?_ _ | refine Grow.drew ?_ | refine Grow.drewN ?_ _ | refine Grow.trans ?_ (by assumption) | refine Grow.below ?_ (by assumption) (by first | exact Nat.le_refl _ | omega))), h0, ?_⟩
    have h := Part.made (w.alloc (.cells #[.int .i64 0, .int .i64 0, .int .i64 0, .int .i64 0, .int .i64 0, .int .i64 0, .int .i64 0, .int .i64 0, .int .i64 0] 54)) 54 9 1 #[.int .i64 0, .int .i64 0, .int .i64 0, .int .i64 0, .int .i64 0, .int .i64 0, .int .i64 0, .int .i64 0, .int .i64 0] rfl
    simpa using h
  case round =>
    obtain ⟨k, hk, rfl, hg, hr, hp⟩ := hrel
    by_cases hlt : k < 9
    · obtain ⟨x0, k0⟩ := hp.cell (o := k) (by omega)
      have f0 := hp.frozen k
      have hk0 : (k : Int) < 9 := by omega
      go_wp2
      go_roundw
      case rel => exact ⟨k + 1, by omega, by go_num, hg.setCell (by show w.heap.size ≤ w.heap.size + 1; omega) _, hr.far (by show w.heap.size ≠ w.heap.size + 1; omega) _, by rw [List.range_succ, List.map_append]; exact hp.step (by simp) (by omega) _⟩
      case measure => simp [intOf]; omega
    · have hk9 : k = 9 := by omega
      subst hk9
      rw [show ((9 : Nat) : Int) = 9 from rfl]
      have hu := UF.of_part hp
      clear hp
      go_wp2
      obtain ⟨w0, rfl⟩ : ∃ w0 : World, w0 = wr := ⟨_, rfl⟩
      go_loopw [16] (fun i wr => ∃ k : Nat, k ≤ l.length ∧ i = .int .i64 k ∧ Grow w wr ∧ Part wr w.heap.size 54 9 1 [] ∧ ∃ u, UF wr (w.heap.size + 1) u ∧ UFC u (Pl.cls (l.take k))) (fun i _ => l.length - (intOf i).toNat)
      case atStart => exact ⟨0, by omega, rfl, hg, hr, id, hu, ufc_id⟩
      case round =>
        obtain ⟨k, hk, rfl, hg, hr, u, hu, hc⟩ := hrel
        by_cases hlt : k < l.length
        · obtain ⟨b, off, rfl, c0, c1, c2⟩ := (hA.grow hg).at_ hlt
          have hv := HF.out l[k] (List.getElem_mem hlt)
          have hsn : Pl.cls (l.take (k + 1)) = Pl.stp (Pl.cls (l.take k)) l[k] := by rw [take_snoc l k hlt, Pl.cls_snoc]
          have HS := Lib.hid hsn
          have HV := Lib.hid hv
          have hgd := Pl.good_cls (l.take k)
          clear hsn hv
          have hg1 := hg.alloc (.cells #[.bool l[k].e, .int .i64 l[k].a, .int .i64 l[k].b] 37)
          have hu1 := hu.grow (Grow.alloc (Grow.refl wr) (.cells #[.bool l[k].e, .int .i64 l[k].a, .int .i64 l[k].b] 37))
          have hr1 := hr.grow (Grow.alloc (Grow.refl wr) (.cells #[.bool l[k].e, .int .i64 l[k].a, .int .i64 l[k].b] 37))
          cases he : l[k].e with
          | true =>
            have HE := Lib.hid he
            rw [he] at c0 hg1 hu1 hr1
            clear he
            go_wp2_with (go_at_call 48; refine (join_c _ u _ l[k] _ hu1 hc hgd HE.out HV.out).mono ?_; rintro e w' ⟨rfl, u', hu', hc', hgr⟩)
            go_roundw
            case rel => exact ⟨k + 1, by omega, by go_num, hg1.grown hgr (by intro q hq; injection hq with hq; omega), hr1.kept hgr (by simp), u', hu', by rw [HS.out]; exact hc'⟩
            case measure => simp [intOf]; omega
          | false =>
            have HE := Lib.hid he
            rw [he] at c0 hg1 hu1 hr1
            clear he
            go_wp2
            go_roundw
            case rel => exact ⟨k + 1, by omega, by go_num, hg1, hr1, u, hu1, by rw [HS.out]; unfold Pl.stp; rw [HE.out]; exact hc⟩
            case measure => simp [intOf]; omega
        · have H := Lib.hid (take_eq_all hlt)
          obtain ⟨x0, r0⟩ := hr.cell (o := 0) (by omega)
          obtain ⟨x1, r1⟩ := hr.cell (o := 1) (by omega)
          obtain ⟨x2, r2⟩ := hr.cell (o := 2) (by omega)
          obtain ⟨x3, r3⟩ := hr.cell (o := 3) (by omega)
          obtain ⟨x4, r4⟩ := hr.cell (o := 4) (by omega)
          obtain ⟨x5, r5⟩ := hr.cell (o := 5) (by omega)
          obtain ⟨x6, r6⟩ := hr.cell (o := 6) (by omega)
          obtain ⟨x7, r7⟩ := hr.cell (o := 7) (by omega)
          obtain ⟨x8, r8⟩ := hr.cell (o := 8) (by omega)
          have q0 := hu.cell (i := 0) (by omega)
          have q1 := hu.cell (i := 1) (by omega)
          have q2 := hu.cell (i := 2) (by omega)
          have q3 := hu.cell (i := 3) (by omega)
          have q4 := hu.cell (i := 4) (by omega)
          have q5 := hu.cell (i := 5) (by omega)
          have q6 := hu.cell (i := 6) (by omega)
          have q7 := hu.cell (i := 7) (by omega)
          have q8 := hu.cell (i := 8) (by omega)
          have f0 := hr.frozen 0
          have f1 := hr.frozen 1
          have f2 := hr.frozen 2
          have f3 := hr.frozen 3
          have f4 := hr.frozen 4
          have f5 := hr.frozen 5
          have f6 := hr.frozen 6
          have f7 := hr.frozen 7
          have f8 := hr.frozen 8
          go_wp2
          refine bodyPost_ret (v := .agg (uarr u)) (by simp [results, Try.results45, go_sem, r0, r1, r2, r3, r4, r5, r6, r7, r8, uarr]) rfl ⟨u, rfl, by rw [H.out] at hc; exact hc, ?_⟩
          exact ((((((((hg.setCell (Nat.le_refl _) _).setCell (Nat.le_refl _) _).setCell (Nat.le_refl _) _).setCell (Nat.le_refl _) _).setCell (Nat.le_refl _) _).setCell (Nat.le_refl _) _).setCell (Nat.le_refl _) _).setCell (Nat.le_refl _) _).setCell (Nat.le_refl _) _

end Go.Proofs.Ytcpkmnlhenbnlaa
