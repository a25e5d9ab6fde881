/- Contracts of the functions of the reference on facts: classes, consistency, implication. Conditions: the lengths are far from the bounds. -/
import Derived.Test.YtcpkmnlhenbnlaaFactC
namespace Go.Proofs.Ytcpkmnlhenbnlaa
open Go.RowKit
set_option linter.unusedVariables false

def cl9 (c : Nat → Nat) : List Int := (List.range 9).map fun t => ((c t : Nat) : Int)
theorem cl9_len (c : Nat → Nat) : (cl9 c).length = 9 := by simp [cl9]
theorem cl9_get (c : Nat → Nat) {t : Nat} (h : t < 9) : ((cl9 c).map (Value.int .i64))[t]? = some (.int .i64 ((c t : Nat) : Int)) := by simp [cl9, h]
theorem cl9_set (d : Nat → Nat) {j : Nat} (h : j < 9) (m : Nat) : ((cl9 d).map (Value.int .i64)).set j (.int .i64 ((m : Nat) : Int)) = (cl9 (fun t => if t = j then m else d t)).map (Value.int .i64) := by
  apply List.ext_getElem
  · simp [cl9]
  · intro i h1 h2
    rw [List.getElem_set]
    by_cases e : j = i
    · subst e; simp [cl9]
    · rw [if_neg e]; simp only [cl9, List.getElem_map, List.getElem_range]; rw [if_neg (fun e' : i = j => e e'.symm)]
theorem cl9_congr {c d : Nat → Nat} (h : ∀ t, t < 9 → c t = d t) : cl9 c = cl9 d := by
  unfold cl9
  refine List.map_congr_left fun t ht => ?_
  rw [h t (List.mem_range.1 ht)]
theorem stp_same {c : Nat → Nat} {f : Pl.Fct} (h : c f.a.toNat = c f.b.toNat) : Pl.stp c f = c := by
  unfold Pl.stp
  split
  · funext t; rw [h, Nat.max_self, Nat.min_self]; split
    · rename_i e; exact e.symm
    · rfl
  · rfl
theorem stp_eqn {c : Nat → Nat} {f : Pl.Fct} (he : f.e = true) (t : Nat) : Pl.stp c f t = if c t = max (c f.a.toNat) (c f.b.toNat) then min (c f.a.toNat) (c f.b.toNat) else c t := by
  unfold Pl.stp; rw [if_pos he]



set_option maxHeartbeats 1600000 in
theorem l1Classes_c (A : Option Addr) (d : Nat) (l : List Pl.Fct) (w : World) (hA : Facts w A l) (hn : l.length ≤ 4611686018427387904) (hf : ∀ f ∈ l, Pl.fv f = true) :
    Calls Try.prog 49 #[.slice A l.length d] w fun e w' => ∃ g c', e = .returned (.slice (some ⟨g, 0, none⟩) 9 c') ∧ w'.ownsRow w.heap.size 3 1 (.slice (some ⟨g, 0, none⟩) 9 c') 9 ((cl9 (Pl.cls l)).map (Value.int .i64)) ∧ Grow w w' := by
  have HF := Lib.hid hf
  clear hf
  obtain ⟨i0, hi, hz0, hz1, hz2⟩ := info_parts int_info
  go_enter Try.func49, Try.ntmps49
  go_wp2
  go_loopw [3, 4] (fun v i wr => ∃ k : Nat, k ≤ 9 ∧ i = .int .i64 k ∧ Grow w wr ∧ ∃ A' c', v = .slice A' k c' ∧ wr.ownsRow w.heap.size 3 1 (.slice A' k c') k ((List.range k).map fun (t : Nat) => Value.int .i64 (t : Int))) (fun _ i _ => 9 - (intOf i).toNat)
  case atStart => exact ⟨0, by omega, rfl, (by repeat (first | exact Grow.refl _ | assumption | refine Grow.alloc ?_ _ | refine Grow.drew ?_ | refine Grow.drewN ?_ _ | refine Grow.trans ?_ (by assumption) | refine Grow.below ?_ (by assumption) (by first | exact Nat.le_refl _ | omega))), _, _, rfl, World.ownsRow_lit _ #[] 0 (Nat.le_refl _) (by unfold maxLen; omega) rfl⟩
  case round =>
    obtain ⟨k, hk, rfl, hg, A', c', rfl, ho⟩ := hrel
    by_cases hlt : k < 9
    · have hk0 : (k : Int) ≤ 8 := by omega
      go_wp2_with (at_builtin; go_loud (refine wpList_append_own _ rfl _ _ 29 rfl w.heap.size 3 i0 (.int .i64 0) 1 8 Try.underlying29 hi hz0 hz1 hz2 rfl (by decide) _ _ _ rfl (ho.alloc _) ⟨wr.heap.size, 0, none⟩ 1 1 [.int .i64 k] rfl rfl (news_one _ _ _) (by intro u hu; rw [List.mem_singleton.1 hu]; rfl) (by unfold maxLen; omega) (by omega) (by have := hg.size; simp; omega) ?_; intro v1 w1 ho1 hg1 _; obtain ⟨A1, c1, rfl⟩ := own_form ho1))
      go_roundw
      case rel => exact ⟨k + 1, by omega, by go_num, (hg.alloc _).grown hg1 (fun q hq => (own_blk ho q hq).1), A1, c1, rfl, by rw [List.range_succ, List.map_append]; exact ho1⟩
      case measure => simp [intOf]; omega
    · have hk9 : k = 9 := by omega
      subst hk9
      rw [show ((9 : Nat) : Int) = 9 from rfl]
      obtain ⟨g, rfl, hgl, hgs⟩ := own_some ho (by omega)
      rw [show ((List.range 9).map fun (t : Nat) => Value.int .i64 (t : Int)) = (cl9 (Pl.cls (l.take 0))).map (Value.int .i64) from rfl] at ho
      go_wp2
      go_loopw [5, 6, 7, 8, 9] (fun i _ _ _ _ wr => ∃ k : Nat, k ≤ l.length ∧ i = .int .i64 k ∧ Grow w wr ∧ wr.ownsRow w.heap.size 3 1 (.slice (some ⟨g, 0, none⟩) 9 c') 9 ((cl9 (Pl.cls (l.take k))).map (Value.int .i64))) (fun i _ _ _ _ _ => l.length - (intOf i).toNat)
      case atStart => exact ⟨0, by omega, rfl, hg, ho⟩
      case round =>
        clear ho hg
        obtain ⟨k, hk, rfl, hg, ho⟩ := hrel
        by_cases hlt : k < l.length
        · obtain ⟨b, off, rfl, c0, c1, c2⟩ := (hA.grow hg).at_ hlt
          obtain ⟨⟨a0, a8⟩, ⟨b0, b8⟩⟩ := (Pl.fv_iff _).1 (HF.out l[k] (List.getElem_mem hlt))
          have HS := Lib.hid (show Pl.cls (l.take (k + 1)) = Pl.stp (Pl.cls (l.take k)) l[k] by rw [take_snoc l k hlt, Pl.cls_snoc])
          have hgd := Pl.good_cls (l.take k)
          have HQ := Lib.hid (fun (he : l[k].e = true) (t : Nat) => stp_eqn (c := Pl.cls (l.take k)) he t)
          have HW := Lib.hid (fun (h : Pl.cls (l.take k) l[k].a.toNat = Pl.cls (l.take k) l[k].b.toNat) => stp_same h)
          generalize Pl.cls (l.take k) = c at *
          have k0 := own_cellAt ho (cl9_get c (t := l[k].a.toNat) (by omega))
          have k1 := own_cellAt ho (cl9_get c (t := l[k].b.toNat) (by omega))
          have hla := hgd.le l[k].a.toNat
          have hlb := hgd.le l[k].b.toNat
          clear hgd
          cases he : l[k].e with
          | false =>
            have HE := Lib.hid he
            rw [he] at c0
            clear he
            go_wp2
            go_roundw
            case rel => exact ⟨k + 1, by omega, by go_num, hg, by rw [HS.out, show Pl.stp c l[k] = c by unfold Pl.stp; rw [HE.out]; rfl]; exact ho⟩
            case measure => simp [intOf]; omega
          | true =>
            have HE := Lib.hid he
            rw [he] at c0
            clear he
            by_cases hab : c l[k].a.toNat = c l[k].b.toNat
            · have hb : (((c l[k].a.toNat : Nat) : Int) == ((c l[k].b.toNat : Nat) : Int)) = true := by simp [hab]
              have HAB := Lib.hid hab
              clear hab
              go_wp2
              go_roundw
              case rel => exact ⟨k + 1, by omega, by go_num, hg, by rw [HS.out, HW.out HAB.out]; exact ho⟩
              case measure => simp [intOf]; omega
            · have hb : (((c l[k].a.toNat : Nat) : Int) == ((c l[k].b.toNat : Nat) : Int)) = false := by simp; omega
              by_cases hlt2 : c l[k].b.toNat < c l[k].a.toNat
              · have HM := Lib.hid (show max (c l[k].a.toNat) (c l[k].b.toNat) = c l[k].a.toNat ∧ min (c l[k].a.toNat) (c l[k].b.toNat) = c l[k].b.toNat from ⟨Nat.max_eq_left (by omega), Nat.min_eq_right (by omega)⟩)
                have hlt3 : ((c l[k].b.toNat : Nat) : Int) < ((c l[k].a.toNat : Nat) : Int) := by omega
                clear hab
                go_wp2
                obtain ⟨wo, rfl⟩ : ∃ wo : World, wo = wr := ⟨_, rfl⟩
                go_loopw [9] (fun i wr => ∃ j : Nat, j ≤ 9 ∧ i = .int .i64 j ∧ Grow w wr ∧ wr.ownsRow w.heap.size 3 1 (.slice (some ⟨g, 0, none⟩) 9 c') 9 ((cl9 (fun t => if t < j then (if c t = c l[k].a.toNat then c l[k].b.toNat else c t) else c t)).map (Value.int .i64))) (fun i _ => 9 - (intOf i).toNat)
                case atStart => exact ⟨0, by omega, rfl, hg, by rw [cl9_congr (d := c) (fun t _ => if_neg (Nat.not_lt_zero t))]; exact ho⟩
                case round =>
                  clear ho hg k0 k1
                  obtain ⟨j, hj, rfl, hg, ho⟩ := hrel
                  by_cases hjl : j < 9
                  · have k0 := own_cellAt ho (cl9_get _ hjl)
                    simp only [Nat.lt_irrefl, if_false] at k0
                    have f0 := World.ownsRow.frozenAt ho j
                    have hj9 : (j : Int) < 9 := by omega
                    by_cases hcj : c j = c l[k].a.toNat
                    · have hb2 : (((c j : Nat) : Int) == ((c l[k].a.toNat : Nat) : Int)) = true := by simp [hcj]
                      have HJ := Lib.hid hcj
                      clear hcj
                      go_wp2
                      go_roundw
                      case rel =>
                        refine ⟨j + 1, by omega, by go_num, hg.setCell hgl _, ?_⟩
                        have h := own_set ho j (.int .i64 ((c l[k].b.toNat : Nat) : Int))
                        rw [cl9_set _ hjl] at h
                        rw [cl9_congr (d := fun t => if t = j then c l[k].b.toNat else if t < j then (if c t = c l[k].a.toNat then c l[k].b.toNat else c t) else c t)]
                        · exact h
                        · intro t ht
                          by_cases e : t = j
                          · subst e; rw [if_pos (by omega), if_pos HJ.out, if_pos rfl]
                          · rw [if_neg e]
                            by_cases e2 : t < j
                            · rw [if_pos e2, if_pos (by omega)]
                            · rw [if_neg e2, if_neg (by omega)]
                      case measure => simp [intOf]; omega
                    · have hb2 : (((c j : Nat) : Int) == ((c l[k].a.toNat : Nat) : Int)) = false := by simp; omega
                      have HJ := Lib.hid hcj
                      clear hcj
                      go_wp2
                      go_roundw
                      case rel =>
                        refine ⟨j + 1, by omega, by go_num, hg, ?_⟩
                        rw [cl9_congr (d := fun t => if t < j then (if c t = c l[k].a.toNat then c l[k].b.toNat else c t) else c t)]
                        · exact ho
                        · intro t ht
                          by_cases e : t = j
                          · subst e; rw [if_pos (by omega), if_neg HJ.out, if_neg (by omega)]
                          · by_cases e2 : t < j
                            · rw [if_pos e2, if_pos (by omega)]
                            · rw [if_neg e2, if_neg (by omega)]
                      case measure => simp [intOf]; omega
                  · have hj9 : j = 9 := by omega
                    subst hj9
                    rw [show ((9 : Nat) : Int) = 9 from rfl]
                    go_wp2
                    go_roundw
                    case rel =>
                      refine ⟨k + 1, by omega, by go_num, hg, ?_⟩
                      rw [HS.out]
                      rw [cl9_congr (d := Pl.stp c l[k])] at ho
                      · exact ho
                      · intro t ht
                        rw [HQ.out HE.out t, HM.out.1, HM.out.2, if_pos ht]
                    case measure => simp [intOf]; omega
              · have HM := Lib.hid (show max (c l[k].a.toNat) (c l[k].b.toNat) = c l[k].b.toNat ∧ min (c l[k].a.toNat) (c l[k].b.toNat) = c l[k].a.toNat from ⟨Nat.max_eq_right (by omega), Nat.min_eq_left (by omega)⟩)
                have hlt3 : ((c l[k].a.toNat : Nat) : Int) ≤ ((c l[k].b.toNat : Nat) : Int) := by omega
                clear hab
                go_wp2
                obtain ⟨wo, rfl⟩ : ∃ wo : World, wo = wr := ⟨_, rfl⟩
                go_loopw [9] (fun i wr => ∃ j : Nat, j ≤ 9 ∧ i = .int .i64 j ∧ Grow w wr ∧ wr.ownsRow w.heap.size 3 1 (.slice (some ⟨g, 0, none⟩) 9 c') 9 ((cl9 (fun t => if t < j then (if c t = c l[k].b.toNat then c l[k].a.toNat else c t) else c t)).map (Value.int .i64))) (fun i _ => 9 - (intOf i).toNat)
                case atStart => exact ⟨0, by omega, rfl, hg, by rw [cl9_congr (d := c) (fun t _ => if_neg (Nat.not_lt_zero t))]; exact ho⟩
                case round =>
                  clear ho hg k0 k1
                  obtain ⟨j, hj, rfl, hg, ho⟩ := hrel
                  by_cases hjl : j < 9
                  · have k0 := own_cellAt ho (cl9_get _ hjl)
                    simp only [Nat.lt_irrefl, if_false] at k0
                    have f0 := World.ownsRow.frozenAt ho j
                    have hj9 : (j : Int) < 9 := by omega
                    by_cases hcj : c j = c l[k].b.toNat
                    · have hb2 : (((c j : Nat) : Int) == ((c l[k].b.toNat : Nat) : Int)) = true := by simp [hcj]
                      have HJ := Lib.hid hcj
                      clear hcj
                      go_wp2
                      go_roundw
                      case rel =>
                        refine ⟨j + 1, by omega, by go_num, hg.setCell hgl _, ?_⟩
                        have h := own_set ho j (.int .i64 ((c l[k].a.toNat : Nat) : Int))
                        rw [cl9_set _ hjl] at h
                        rw [cl9_congr (d := fun t => if t = j then c l[k].a.toNat else if t < j then (if c t = c l[k].b.toNat then c l[k].a.toNat else c t) else c t)]
                        · exact h
                        · intro t ht
                          by_cases e : t = j
                          · subst e; rw [if_pos (by omega), if_pos HJ.out, if_pos rfl]
                          · rw [if_neg e]
                            by_cases e2 : t < j
                            · rw [if_pos e2, if_pos (by omega)]
                            · rw [if_neg e2, if_neg (by omega)]
                      case measure => simp [intOf]; omega
                    · have hb2 : (((c j : Nat) : Int) == ((c l[k].b.toNat : Nat) : Int)) = false := by simp; omega
                      have HJ := Lib.hid hcj
                      clear hcj
                      go_wp2
                      go_roundw
                      case rel =>
                        refine ⟨j + 1, by omega, by go_num, hg, ?_⟩
                        rw [cl9_congr (d := fun t => if t < j then (if c t = c l[k].b.toNat then c l[k].a.toNat else c t) else c t)]
                        · exact ho
                        · intro t ht
                          by_cases e : t = j
                          · subst e; rw [if_pos (by omega), if_neg HJ.out, if_neg (by omega)]
                          · by_cases e2 : t < j
                            · rw [if_pos e2, if_pos (by omega)]
                            · rw [if_neg e2, if_neg (by omega)]
                      case measure => simp [intOf]; omega
                  · have hj9 : j = 9 := by omega
                    subst hj9
                    rw [show ((9 : Nat) : Int) = 9 from rfl]
                    go_wp2
                    go_roundw
                    case rel =>
                      refine ⟨k + 1, by omega, by go_num, hg, ?_⟩
                      rw [HS.out]
                      rw [cl9_congr (d := Pl.stp c l[k])] at ho
                      · exact ho
                      · intro t ht
                        rw [HQ.out HE.out t, HM.out.1, HM.out.2, if_pos ht]
                    case measure => simp [intOf]; omega
        · have H := Lib.hid (take_eq_all hlt)
          go_wp2
          go_ret
          exact ⟨g, c', rfl, by rw [H.out] at ho; exact ho, hg⟩

end Go.Proofs.Ytcpkmnlhenbnlaa
