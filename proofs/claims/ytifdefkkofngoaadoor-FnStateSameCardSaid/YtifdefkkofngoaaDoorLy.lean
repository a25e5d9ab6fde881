/- strings.Join in the words of the plain laws; rows of texts that grow; a fact and an atom as text. Conditions: the text is shorter than the model's bound. -/
import Derived.Test.YtifdefkkofngoaaDoorLx
import Derived.Test.YtifdefkkofngoaaDoorTx
import Derived.Test.YtifdefkkofngoaaDoorDrawP
import Derived.Test.YtifdefkkofngoaaDoorPlainAll
import Derived.Test.YtifdefkkofngoaaDoorAs3
import Derived.Test.YtifdefkkofngoaaDoorBox3
namespace Go.Proofs.YtifdefkkofngoaaDoor
open Go.RowKit
set_option linter.unusedVariables false

theorem Join_c (A : Option Addr) (c : Nat) (ps : List (List UInt8)) (sep : List UInt8) (raw : ByteArray) (hraw : raw = Pl.str sep) (w : World) (hp : Texts w A ps) (h0 : 0 < ps.length) (hc : ps.length ≤ c) (hl : ps.length ≤ 1000000) (hj : (Lib.join ps sep).length ≤ 100000000) :
    Calls Tryd.prog 43 #[.slice A ps.length c, .string raw] w fun e w' => e = .returned (.string (Pl.str (Lib.join ps sep))) ∧ Grow w w' := by
  subst hraw
  obtain ⟨b, off, rfl, hcell⟩ := hp (by rintro rfl; simp at h0)
  have hm : (ps.map Pl.str).map (·.data.toList) = ps := by
    rw [List.map_map]
    conv => rhs; rw [← List.map_id ps]
    exact List.map_congr_left fun a _ => Pl.str_data a
  have J := Tryd.strings_Join b off c (ps.map Pl.str) (Pl.str sep) w (fun j x hx => by
      rw [List.getElem?_map] at hx
      obtain ⟨y, hy, rfl⟩ := Option.map_eq_some_iff.1 hx
      obtain ⟨hj, e⟩ := List.getElem?_eq_some_iff.1 hy
      rw [← e]; exact hcell j hj) (World.block_lt_of_cell? w _ (hcell 0 h0)) (by rw [List.length_map]; omega) (by rw [List.length_map]; exact hc) (by rw [hm, Pl.str_data]; omega)
  rw [List.length_map, hm, Pl.str_data] at J
  exact J.mono fun e w' ⟨h1, h2⟩ => ⟨h1, h2⟩

theorem string_info : (Tryd.prog.info? 9).map (fun i => (i.zero, i.size, i.bytes)) = some (some (.string ByteArray.empty), 1, 16) := by kernel_rfl
theorem otexts_snoc {w : World} {lo c : Nat} {A : Option Addr} {l : List (List UInt8)} {x : List UInt8} (h : w.ownsRow lo 9 1 (.slice A (l.length + 1) c) (l.length + 1) (tcells (l ++ [x]))) : OTexts w lo (.slice A (l ++ [x]).length c) (l ++ [x]) := by
  show World.ownsRow _ _ _ _ (.slice _ (l ++ [x]).length _) (l ++ [x]).length _
  rw [List.length_append]; exact h
theorem own_cap {w : World} {lo E sz n c : Nat} {A : Option Addr} {xs : List Value} (h : w.ownsRow lo E sz (.slice A n c) n xs) : n ≤ c := by
  rcases h.2 with ⟨h1, h2⟩ | ⟨g, cap, cur, hv, hb, hgg, h3, h4, h5⟩
  · omega
  · injection hv with _ _ e; omega
theorem catC (a b : List UInt8) (raw : ByteArray) (h : raw = Pl.str b) : Pl.str a ++ raw = Pl.str (a ++ b) := by rw [h]; exact Pl.str_append a b


set_option maxRecDepth 100000 in
set_option maxHeartbeats 1600000 in
theorem formatAtom_c (x : Pl.Atm) (w : World) (hx : Pl.av x = true) (hT : TabN w) : Calls Tryd.prog 76 #[xval x] w fun e w' => e = .returned (.string (Pl.str (Pl.txX x))) ∧ Grow w w' := by
  obtain ⟨k, a, b⟩ := x
  obtain ⟨hk, ha, hb⟩ := (Pl.av_iff _).1 hx
  have y1 := Box3.new w 82 (.int .i64 k) (.int .i64 a) (.int .i64 b)
  have G : Grow w (w.alloc (.cells #[.int .i64 k, .int .i64 a, .int .i64 b] 82)) := (by repeat (first | exact Grow.refl _ | assumption | refine Grow.alloc ?_ _ | refine Grow.drew ?_ | refine Grow.drewN ?_ _ | refine Grow.trans ?_ (by assumption) | refine Grow.below ?_ (by assumption) (by first | exact Nat.le_refl _ | omega)))
  obtain ⟨na, hna⟩ : ∃ na, na = Pl.nm a := ⟨_, rfl⟩
  obtain ⟨nb, hnb⟩ : ∃ nb, nb = Pl.nm b := ⟨_, rfl⟩
  have la : na.length ≤ 3 := by rw [hna]; exact Pl.nm_len a
  have lb : nb.length ≤ 3 := by rw [hnb]; exact Pl.nm_len b
  have CA := Lib.hid (show ∀ W, TabN W → Calls Tryd.prog 41 #[.int .i64 a] W fun e w' => e = .returned (.string (Pl.str na)) ∧ W = w' from fun W k => by rw [hna]; exact TermName_c a W k)
  have CB := Lib.hid (show ∀ W, TabN W → Calls Tryd.prog 41 #[.int .i64 b] W fun e w' => e = .returned (.string (Pl.str nb)) ∧ W = w' from fun W k => by rw [hnb]; exact TermName_c b W k)
  have z1 : (Pl.str na).size = na.length := Pl.str_size na
  have z2 : (Pl.str nb).size = nb.length := Pl.str_size nb
  have hc1 : ¬ (9223372036854775807 < na.length + 1) := by omega
  have hc2 : ¬ (9223372036854775807 < na.length + 1 + nb.length) := by omega
  go_enter Tryd.func76, Tryd.ntmps76
  by_cases hk2 : k = 2
  · have HX := Lib.hid (show Pl.txX ⟨k, a, b⟩ = na ++ [126] ++ nb by rw [hna, hnb]; unfold Pl.txX Pl.sx; rw [if_pos hk2])
    have hbk : (k == 2) = true := by simp [hk2]
    have c1 : Pl.str na ++ (⟨#[126]⟩ : ByteArray) = Pl.str (na ++ [126]) := catC _ _ _ rfl
    have c2 : (Pl.str (na ++ [126])).size = na.length + 1 := by rw [Pl.str_size, List.length_append]; rfl
    have c3 : Pl.str (na ++ [126]) ++ Pl.str nb = Pl.str (na ++ [126] ++ nb) := Pl.str_append _ _
    clear hna hnb hk hk2
    obtain ⟨k0, k1, k2⟩ := y1.facts
    go_wp2_with fail
    generalize w.alloc (.cells #[.int .i64 k, .int .i64 a, .int .i64 b] 82) = w1 at *
    have hT1 := hT.grow G
    have hgg := G
    refine wp_region_held_drew (S := (fun W => W.cell? ⟨w.heap.size, 1, none⟩ = some (.int .i64 a) ∧ W.cell? ⟨w.heap.size, 2, none⟩ = some (.int .i64 b) ∧ Grow w1 W)) (by kernel_rfl) ?_ (fun hHeld => ?_)
    · exact ⟨k1, k2, (by repeat (first | exact Grow.refl _ | assumption | refine Grow.alloc ?_ _ | refine Grow.drew ?_ | refine Grow.drewN ?_ _ | refine Grow.trans ?_ (by assumption) | refine Grow.below ?_ (by assumption) (by first | exact Nat.le_refl _ | omega)))⟩
    refine pop_take 0 (v := ?_) rfl (by kernel_rfl) (by kernel_rfl) (by kernel_rfl) (fun _ _ _ h => h) (by rfl) (by assumption) ?_ ?_
    rotate_left 1
    · (intro W hSw; (try dsimp only at hSw); go_simp; (try with_reducible rfl))
    (try simp only [Act.put, List.setIfInBounds_toArray, List.set_cons_zero, List.set_cons_succ])
    refine pop_take 1 (v := ?_) rfl (by kernel_rfl) (by kernel_rfl) (by kernel_rfl) (fun _ _ _ h => h) (by rfl) (by assumption) ?_ ?_
    rotate_left 1
    · (intro W hSw; (try dsimp only at hSw); go_simp; (try with_reducible rfl))
    (try simp only [Act.put, List.setIfInBounds_toArray, List.set_cons_zero, List.set_cons_succ])
    refine pop_take 4 (v := ?_) rfl (by kernel_rfl) (by kernel_rfl) (by kernel_rfl) (fun _ _ _ h => h) (by rfl) (by assumption) ?_ ?_
    rotate_left 1
    · (intro W hSw; (try dsimp only at hSw); go_simp; (try with_reducible rfl))
    (try simp only [Act.put, List.setIfInBounds_toArray, List.set_cons_zero, List.set_cons_succ])
    refine pop_take 5 (v := ?_) rfl (by kernel_rfl) (by kernel_rfl) (by kernel_rfl) (fun _ _ _ h => h) (by rfl) (by assumption) ?_ ?_
    rotate_left 1
    · (intro W hSw; (try dsimp only at hSw); go_simp; (try with_reducible rfl))
    (try simp only [Act.put, List.setIfInBounds_toArray, List.set_cons_zero, List.set_cons_succ])
    refine pop_one 2 (by kernel_rfl) rfl (fun K hK => ?_)
    go_simp
    (go_at_call 41; (with_reducible refine (CA.out _ (hT1.grow hHeld.2.2)).mono ?_); rintro e x1 ⟨rfl, rfl⟩)
    go_wp2_with fail
    refine hK.out _ _ ?_ (fun hHeld => ?_)
    · exact hHeld
    clear hK K
    (try simp only [Act.put, List.setIfInBounds_toArray, List.set_cons_zero, List.set_cons_succ])
    refine pop_take 3 (v := ?_) rfl (by kernel_rfl) (by kernel_rfl) (by kernel_rfl) (fun _ _ _ h => h) (by rfl) (by assumption) ?_ ?_
    rotate_left 1
    · (intro W hSw; (try dsimp only at hSw); go_simp; (try with_reducible rfl))
    (try simp only [Act.put, List.setIfInBounds_toArray, List.set_cons_zero, List.set_cons_succ])
    refine pop_one 6 (by kernel_rfl) rfl (fun K hK => ?_)
    go_simp
    (go_at_call 41; (with_reducible refine (CB.out _ (hT1.grow hHeld.2.2)).mono ?_); rintro e x1 ⟨rfl, rfl⟩)
    go_wp2_with fail
    refine hK.out _ _ ?_ (fun hHeld => ?_)
    · exact hHeld
    clear hK K
    (try simp only [Act.put, List.setIfInBounds_toArray, List.set_cons_zero, List.set_cons_succ])
    refine pop_take 7 (v := ?_) rfl (by kernel_rfl) (by kernel_rfl) (by kernel_rfl) (fun _ _ _ h => h) (by rfl) (by assumption) ?_ ?_
    rotate_left 1
    · (intro W hSw; (try dsimp only at hSw); go_simp; (try with_reducible rfl))
    (try simp only [Act.put, List.setIfInBounds_toArray, List.set_cons_zero, List.set_cons_succ])
    refine pop_take 8 (v := ?_) rfl (by kernel_rfl) (by kernel_rfl) (by kernel_rfl) (fun _ _ _ h => h) (by rfl) (by assumption) ?_ ?_
    rotate_left 1
    · (intro W hSw; (try dsimp only at hSw); go_simp; (try with_reducible rfl))
    (try simp only [Act.put, List.setIfInBounds_toArray, List.set_cons_zero, List.set_cons_succ])
    refine wpAnyH_done (by kernel_rfl) ?_ _
    go_wp2_with fail
    go_ret
    exact ⟨by rw [HX.out, List.append_assoc]; rfl, G.trans hHeld.2.2⟩
  · have HX := Lib.hid (show Pl.txX ⟨k, a, b⟩ = na ++ [62] ++ nb by rw [hna, hnb]; unfold Pl.txX Pl.sx; rw [if_neg hk2])
    have hbk : (k == 2) = false := by simp [hk2]
    have c1 : Pl.str na ++ (⟨#[62]⟩ : ByteArray) = Pl.str (na ++ [62]) := catC _ _ _ rfl
    have c2 : (Pl.str (na ++ [62])).size = na.length + 1 := by rw [Pl.str_size, List.length_append]; rfl
    have c3 : Pl.str (na ++ [62]) ++ Pl.str nb = Pl.str (na ++ [62] ++ nb) := Pl.str_append _ _
    clear hna hnb hk hk2
    obtain ⟨k0, k1, k2⟩ := y1.facts
    go_wp2_with fail
    generalize w.alloc (.cells #[.int .i64 k, .int .i64 a, .int .i64 b] 82) = w1 at *
    have hT1 := hT.grow G
    have hgg := G
    refine wp_region_held_drew (S := (fun W => W.cell? ⟨w.heap.size, 1, none⟩ = some (.int .i64 a) ∧ W.cell? ⟨w.heap.size, 2, none⟩ = some (.int .i64 b) ∧ Grow w1 W)) (by kernel_rfl) ?_ (fun hHeld => ?_)
    · exact ⟨k1, k2, (by repeat (first | exact Grow.refl _ | assumption | refine Grow.alloc ?_ _ | refine Grow.drew ?_ | refine Grow.drewN ?_ _ | refine Grow.trans ?_ (by assumption) | refine Grow.below ?_ (by assumption) (by first | exact Nat.le_refl _ | omega)))⟩
    refine pop_take 0 (v := ?_) rfl (by kernel_rfl) (by kernel_rfl) (by kernel_rfl) (fun _ _ _ h => h) (by rfl) (by assumption) ?_ ?_
    rotate_left 1
    · (intro W hSw; (try dsimp only at hSw); go_simp; (try with_reducible rfl))
    (try simp only [Act.put, List.setIfInBounds_toArray, List.set_cons_zero, List.set_cons_succ])
    refine pop_take 1 (v := ?_) rfl (by kernel_rfl) (by kernel_rfl) (by kernel_rfl) (fun _ _ _ h => h) (by rfl) (by assumption) ?_ ?_
    rotate_left 1
    · (intro W hSw; (try dsimp only at hSw); go_simp; (try with_reducible rfl))
    (try simp only [Act.put, List.setIfInBounds_toArray, List.set_cons_zero, List.set_cons_succ])
    refine pop_take 4 (v := ?_) rfl (by kernel_rfl) (by kernel_rfl) (by kernel_rfl) (fun _ _ _ h => h) (by rfl) (by assumption) ?_ ?_
    rotate_left 1
    · (intro W hSw; (try dsimp only at hSw); go_simp; (try with_reducible rfl))
    (try simp only [Act.put, List.setIfInBounds_toArray, List.set_cons_zero, List.set_cons_succ])
    refine pop_take 5 (v := ?_) rfl (by kernel_rfl) (by kernel_rfl) (by kernel_rfl) (fun _ _ _ h => h) (by rfl) (by assumption) ?_ ?_
    rotate_left 1
    · (intro W hSw; (try dsimp only at hSw); go_simp; (try with_reducible rfl))
    (try simp only [Act.put, List.setIfInBounds_toArray, List.set_cons_zero, List.set_cons_succ])
    refine pop_one 2 (by kernel_rfl) rfl (fun K hK => ?_)
    go_simp
    (go_at_call 41; (with_reducible refine (CA.out _ (hT1.grow hHeld.2.2)).mono ?_); rintro e x1 ⟨rfl, rfl⟩)
    go_wp2_with fail
    refine hK.out _ _ ?_ (fun hHeld => ?_)
    · exact hHeld
    clear hK K
    (try simp only [Act.put, List.setIfInBounds_toArray, List.set_cons_zero, List.set_cons_succ])
    refine pop_take 3 (v := ?_) rfl (by kernel_rfl) (by kernel_rfl) (by kernel_rfl) (fun _ _ _ h => h) (by rfl) (by assumption) ?_ ?_
    rotate_left 1
    · (intro W hSw; (try dsimp only at hSw); go_simp; (try with_reducible rfl))
    (try simp only [Act.put, List.setIfInBounds_toArray, List.set_cons_zero, List.set_cons_succ])
    refine pop_one 6 (by kernel_rfl) rfl (fun K hK => ?_)
    go_simp
    (go_at_call 41; (with_reducible refine (CB.out _ (hT1.grow hHeld.2.2)).mono ?_); rintro e x1 ⟨rfl, rfl⟩)
    go_wp2_with fail
    refine hK.out _ _ ?_ (fun hHeld => ?_)
    · exact hHeld
    clear hK K
    (try simp only [Act.put, List.setIfInBounds_toArray, List.set_cons_zero, List.set_cons_succ])
    refine pop_take 7 (v := ?_) rfl (by kernel_rfl) (by kernel_rfl) (by kernel_rfl) (fun _ _ _ h => h) (by rfl) (by assumption) ?_ ?_
    rotate_left 1
    · (intro W hSw; (try dsimp only at hSw); go_simp; (try with_reducible rfl))
    (try simp only [Act.put, List.setIfInBounds_toArray, List.set_cons_zero, List.set_cons_succ])
    refine pop_take 8 (v := ?_) rfl (by kernel_rfl) (by kernel_rfl) (by kernel_rfl) (fun _ _ _ h => h) (by rfl) (by assumption) ?_ ?_
    rotate_left 1
    · (intro W hSw; (try dsimp only at hSw); go_simp; (try with_reducible rfl))
    (try simp only [Act.put, List.setIfInBounds_toArray, List.set_cons_zero, List.set_cons_succ])
    refine wpAnyH_done (by kernel_rfl) ?_ _
    go_wp2_with fail
    go_ret
    exact ⟨by rw [HX.out, List.append_assoc]; rfl, G.trans hHeld.2.2⟩

end Go.Proofs.YtifdefkkofngoaaDoor
