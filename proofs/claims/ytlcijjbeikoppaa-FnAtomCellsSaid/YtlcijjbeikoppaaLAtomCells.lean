/- FnAtomCells: the cells that an atom describes are allocated and different, and a segment of one cell is a cell. No conditions. -/
import Derived.Test.YtlcijjbeikoppaaPlainAt
import Derived.Test.YtlcijjbeikoppaaDrawO
import Derived.Test.YtlcijjbeikoppaaDrawS2
import Derived.Test.YtlcijjbeikoppaaRowAid
import Derived.Test.YtlcijjbeikoppaaCel
namespace Go.Proofs.Ytlcijjbeikoppaa.lawFnAtomCells
open Go.ChangeShapes Go.WideShapes Go.ChangeAt Go.RowKit Go.Joins Go.Deep
open Go.ChangeMaps (open_string shut_string)
set_option linter.unusedVariables false
set_option linter.unusedSimpArgs false

theorem pop_skip {P : Program} {md : Region.Mode} {Q : Exit → Act → World → Prop} {S : World → Prop} {os : List Oper} (i : Nat) {oi : Oper} {fuel : Nat} {listed : Array Bool} {a : Act} {w : World} (hi : os[i]? = some oi)
    (hs : Region.noSelect os.toArray = true) (hf : Region.free md os.toArray listed i = true) (hr : (Region.ready md os.toArray listed).contains i = true)
    (hQ : ∀ c a w, Q (.panic c) (a.put oi.dst undef) w → Q (.panic c) a w) (hw : Region.wanted oi (yielded os.toArray a.tmps) = false) (hS : S w)
    (h : wpAnyH P md os.toArray Q S fuel (listed.setIfInBounds i true) (a.put oi.dst undef) w) : wpAnyH P md os.toArray Q S (fuel + 1) listed a w :=
  wpAnyH_take (by rw [List.getElem?_toArray]; exact hi) hs hf hr hQ (.inr ⟨hw, rfl⟩) hS h
theorem ints_take {w : World} {A : Option Addr} {l : List Int} (h : Ints w A l) (k : Nat) : Ints w A (l.take k) := fun hne => by
  obtain ⟨b, off, hA, hc⟩ := h (by rintro rfl; simp at hne)
  exact ⟨b, off, hA, fun i hi => by
    have := hc i (by rw [List.length_take] at hi; omega)
    rw [List.getElem_take]; exact this⟩

theorem own_cap {w : World} {lo E sz n c : Nat} {A : Option Addr} {xs : List Value} (h : w.ownsRow lo E sz (.slice A n c) n xs) : n ≤ c := by
  rcases h.2 with ⟨h1, h2⟩ | ⟨g, cap, cur, hv, hb, hgg, h3, h4, h5⟩
  · omega
  · injection hv with _ _ e; omega


set_option maxRecDepth 100000 in
set_option maxHeartbeats 6400000 in
theorem walk (A : Option Addr) (c n : Nat) (w : World) (hA : Bytes w A n) (hn : n ≤ 9223372036854775807) (hnc : n ≤ c) :
    Calls Try.prog 5 #[.slice A n c] w fun e w' => e = .returned (.bool true) ∧ Grow w w' := by
  by_cases hn20 : (1048576 : Int) < (n : Int)
  · go_enter Try.func5, Try.ntmps5
    go_wp2
    go_ret
    exact ⟨rfl, (by repeat (first | exact Grow.refl _ | assumption | refine Grow.alloc ?_ _ | refine Grow.drew ?_ | refine Grow.drewN ?_ _ | refine Grow.trans ?_ (by assumption) | refine Grow.below ?_ (by assumption) (by first | exact Nat.le_refl _ | omega)))⟩
  go_enter Try.func5, Try.ntmps5
  go_wp2_with fail
  refine (DrawAtomCells_c A n c _ hA hn hnc).mono ?_
  rintro e w1 ⟨A1, B1, c1, d1, v, h, x, rfl, o1, ⟨hv, hh⟩, g1⟩
  have y3 := (Box2.new w1 43 (.slice A1 v.length c1) (.slice B1 h.length d1)).grow (show Grow _ ((w1.alloc (.cells #[.slice A1 v.length c1, .slice B1 h.length d1] 43)).alloc (.cells #[.int .i64 x.k, .int .i64 x.a, .int .i64 x.b] 45)) from Grow.alloc (Grow.refl _) _)
  have y4 := Box3.new (w1.alloc (.cells #[.slice A1 v.length c1, .slice B1 h.length d1] 43)) 45 (.int .i64 x.k) (.int .i64 x.a) (.int .i64 x.b)
  have q : Grow w1 ((w1.alloc (.cells #[.slice A1 v.length c1, .slice B1 h.length d1] 43)).alloc (.cells #[.int .i64 x.k, .int .i64 x.a, .int .i64 x.b] 45)) := (by repeat (first | exact Grow.refl _ | assumption | refine Grow.alloc ?_ _ | refine Grow.drew ?_ | refine Grow.drewN ?_ _ | refine Grow.trans ?_ (by assumption) | refine Grow.below ?_ (by assumption) (by first | exact Nat.le_refl _ | omega)))
  simp only [World.size_alloc] at y4
  have S := o1.st.grow q
  have G := g1.trans q
  clear o1 g1 q hA hnc
  obtain ⟨⟨l, rb⟩, hr⟩ : ∃ r, r = Pl.atomR ⟨v, h⟩ x := ⟨_, rfl⟩
  have hll : l.length ≤ 8 := by have hh := Pl.atomR_len ⟨v, h⟩ x; rw [← hr] at hh; exact hh
  have CI := Lib.hid (show ∀ W, Sts W A1 B1 ⟨v, h⟩ → Calls Try.prog 17 #[sval A1 B1 c1 d1 ⟨v, h⟩, xval x] W (RWay W (l, rb)) from fun W k => by have kk := AtomCells_c A1 B1 c1 d1 ⟨v, h⟩ x W k (by show v.length ≤ _; omega) (by show h.length ≤ _; omega); rw [← hr] at kk; exact kk)
  have CS := Lib.hid (show ∀ W, Sts W A1 B1 ⟨v, h⟩ → Calls Try.prog 18 #[sval A1 B1 c1 d1 ⟨v, h⟩, xval x] W (RWay W (l, rb)) from fun W k => by have kk := sAtomCells_c A1 B1 c1 d1 ⟨v, h⟩ x W k (by show v.length ≤ _; omega) (by show h.length ≤ _; omega); rw [← hr] at kk; exact kk)
  have HR := Lib.hid hr
  clear hr
  obtain ⟨k0, k1, _, _⟩ := y3.facts
  obtain ⟨m0, m1, m2⟩ := y4.facts
  go_wp2_with fail
  generalize (w1.alloc (.cells #[.slice A1 v.length c1, .slice B1 h.length d1] 43)).alloc (.cells #[.int .i64 x.k, .int .i64 x.a, .int .i64 x.b] 45) = w2 at *
  refine (CI.out _ S).mono ?_
  rintro e w3 ⟨A2, c2, rfl, o2, g2⟩
  have U := OInts.ints rfl o2
  have HC := Lib.hid (own_cap o2)
  clear o2 k0 k1 m0 m1 m2
  replace y3 := y3.grow g2
  replace y4 := y4.grow g2
  replace S := S.grow g2
  replace G := G.trans g2
  clear g2
  obtain ⟨k0, k1, _, _⟩ := y3.facts
  obtain ⟨m0, m1, m2⟩ := y4.facts
  go_wp2_with fail
  refine (CS.out _ S).mono ?_
  rintro e w4 ⟨A3, c3, rfl, o3, g3⟩
  have U3 := OInts.ints rfl o3
  clear o3 k0 k1 m0 m1 m2
  replace U := U.grow g3
  replace y3 := y3.grow g3
  replace y4 := y4.grow g3
  replace S := S.grow g3
  replace G := G.trans g3
  clear g3 CI CS
  go_wp2_with fail
  refine (slInts_c A2 A3 c2 c3 l l _ U U3 (by omega) (by omega)).mono ?_
  rintro e w5 ⟨rfl, g4⟩
  replace U := U.grow g4
  replace U3 := U3.grow g4
  replace y3 := y3.grow g4
  replace y4 := y4.grow g4
  replace S := S.grow g4
  replace G := G.trans g4
  clear g4
  cases rb with
  | false =>
    go_wp2_with fail
    refine (slInts_c A2 A3 c2 c3 l l _ U U3 (by omega) (by omega)).mono ?_
    rintro e w6 ⟨rfl, g5⟩
    go_wp2_with fail
    go_ret
    exact ⟨by simp, G.trans g5⟩
  | true =>
    have L := Lib.hid (Pl.at_law HR.out)
    clear U3 HR
    obtain ⟨us, hus⟩ : ∃ us, us = Pl.usedC ⟨v, h⟩ := ⟨_, rfl⟩
    have hul : us.length ≤ 8 := by rw [hus]; exact Pl.usedC_len _
    have CU := Lib.hid (show ∀ W, Sts W A1 B1 ⟨v, h⟩ → Calls Try.prog 20 #[sval A1 B1 c1 d1 ⟨v, h⟩] W (ROut W us) from fun W k => by rw [hus]; exact UsedCells_c A1 B1 c1 d1 ⟨v, h⟩ W k (by show v.length ≤ _; omega) (by show h.length ≤ _; omega))
    have HU := Lib.hid (show ∀ n ∈ l, n ∈ us by rw [hus]; exact L.out.used)
    clear hus
    obtain ⟨k0, k1, _, _⟩ := y3.facts
    go_wp2_with fail
    refine (CU.out _ S).mono ?_
    rintro e w6 ⟨A5, c5, rfl, o5, g5⟩
    have V := OInts.ints rfl o5
    clear o5 k0 k1
    replace U := U.grow g5
    replace y3 := y3.grow g5
    replace y4 := y4.grow g5
    replace S := S.grow g5
    replace G := G.trans g5
    clear g5 CU
    go_wp2_with fail
    go_loopw [10] (fun i wr => ∃ k : Nat, k ≤ l.length ∧ i = .int .i64 k ∧ Grow w wr ∧ Sts wr A1 B1 ⟨v, h⟩ ∧ Ints wr A2 l ∧ Ints wr A5 us ∧ Box2 wr w1.heap.size 43 (.slice A1 v.length c1) (.slice B1 h.length d1) ∧ Box3 wr (w1.heap.size + 1) 45 (.int .i64 x.k) (.int .i64 x.a) (.int .i64 x.b)) (fun i _ => l.length - (intOf i).toNat)
    case atStart => exact ⟨0, Nat.zero_le _, rfl, G, S, U, V, y3, y4⟩
    case round =>
      clear G S U V y3 y4
      obtain ⟨k, hk, rfl, G, S, U, V, y3, y4⟩ := hrel
      by_cases hlt : k < l.length
      · obtain ⟨b, off, rfl, q0⟩ := U.at_ hlt
        have hk2 : (k : Int) < (l.length : Int) := by omega
        have hk3 : (0 : Int) ≤ (k : Int) := by omega
        have C1 := Lib.hid (show ∀ W, Grow wr W → Calls Try.prog 21 #[.slice A5 us.length c5, .int .i64 l[k]] W fun e w' => e = .returned (.bool true) ∧ W = w' from fun W q => by
          have := slHas_c A5 c5 us l[k] W (V.grow q) (by omega)
          rw [decide_eq_true (HU.out _ (List.getElem_mem hlt))] at this
          exact this)
        have C2 := Lib.hid (show ∀ W, Grow wr W → ∀ cc, Calls Try.prog 21 #[.slice (some ⟨b, off, none⟩) k cc, .int .i64 l[k]] W fun e w' => e = .returned (.bool false) ∧ W = w' from fun W q cc => by
          have := slHas_c (some ⟨b, off, none⟩) cc (l.take k) l[k] W (ints_take (U.grow q) k) (by rw [List.length_take]; omega)
          rw [List.length_take, Nat.min_eq_left hk] at this
          rw [decide_eq_false (fun hm => by
            obtain ⟨j, hj, e⟩ := List.getElem_of_mem hm
            rw [List.length_take] at hj
            rw [List.getElem_take] at e
            exact L.out.ap j k (by omega) hlt (by omega) e)] at this
          exact this)
        go_wp2_with fail
        refine wp_region_held_drew (S := (fun W => Grow wr W ∧ W.cell? ⟨b, off + k, none⟩ = some (.int .i64 l[k]))) (by kernel_rfl) ?_ (fun hHeld => ?_)
        · exact ⟨(by repeat (first | exact Grow.refl _ | assumption | refine Grow.alloc ?_ _ | refine Grow.drew ?_ | refine Grow.drewN ?_ _ | refine Grow.trans ?_ (by assumption) | refine Grow.below ?_ (by assumption) (by first | exact Nat.le_refl _ | omega))), q0⟩
        refine pop_take 0 (v := ?_) rfl (by kernel_rfl) (by kernel_rfl) (by kernel_rfl) (fun _ _ _ h => h) (by rfl) (by assumption) ?_ ?_
        rotate_left 1
        · (intro W hSw; (try dsimp only at hSw); go_simp; (try with_reducible rfl))
        (try simp only [Act.put, List.setIfInBounds_toArray, List.set_cons_zero, List.set_cons_succ])
        refine pop_take 1 (v := ?_) rfl (by kernel_rfl) (by kernel_rfl) (by kernel_rfl) (fun _ _ _ h => h) (by rfl) (by assumption) ?_ ?_
        rotate_left 1
        · (intro W hSw; (try dsimp only at hSw); go_simp; (try with_reducible rfl))
        (try simp only [Act.put, List.setIfInBounds_toArray, List.set_cons_zero, List.set_cons_succ])
        refine pop_take 2 (v := ?_) rfl (by kernel_rfl) (by kernel_rfl) (by kernel_rfl) (fun _ _ _ h => h) (by rfl) (by assumption) ?_ ?_
        rotate_left 1
        · (intro W hSw; (try dsimp only at hSw); go_simp; (try with_reducible rfl))
        (try simp only [Act.put, List.setIfInBounds_toArray, List.set_cons_zero, List.set_cons_succ])
        refine pop_take 3 (v := ?_) rfl (by kernel_rfl) (by kernel_rfl) (by kernel_rfl) (fun _ _ _ h => h) (by rfl) (by assumption) ?_ ?_
        rotate_left 1
        · (intro W hSw; (try dsimp only at hSw); go_simp; (try with_reducible rfl))
        (try simp only [Act.put, List.setIfInBounds_toArray, List.set_cons_zero, List.set_cons_succ])
        refine pop_take 4 (v := ?_) rfl (by kernel_rfl) (by kernel_rfl) (by kernel_rfl) (fun _ _ _ h => h) (by rfl) (by assumption) ?_ ?_
        rotate_left 1
        · (intro W hSw; (try dsimp only at hSw); go_simp; (try with_reducible rfl))
        (try simp only [Act.put, List.setIfInBounds_toArray, List.set_cons_zero, List.set_cons_succ])
        refine pop_one 5 (by kernel_rfl) rfl (fun K hK => ?_)
        go_simp
        (go_at_call 21; (with_reducible refine (C1.out _ hHeld.1).mono ?_); rintro e x1 ⟨rfl, rfl⟩)
        go_wp2_with fail
        refine hK.out _ _ ?_ (fun hHeld => ?_)
        · exact hHeld
        clear hK K
        (try simp only [Act.put, List.setIfInBounds_toArray, List.set_cons_zero, List.set_cons_succ])
        refine pop_take 6 (v := ?_) rfl (by kernel_rfl) (by kernel_rfl) (by kernel_rfl) (fun _ _ _ h => h) (by rfl) (by assumption) ?_ ?_
        rotate_left 1
        · (intro W hSw; (try dsimp only at hSw); go_simp; (try with_reducible rfl))
        (try simp only [Act.put, List.setIfInBounds_toArray, List.set_cons_zero, List.set_cons_succ])
        refine pop_take 7 (v := ?_) rfl (by kernel_rfl) (by kernel_rfl) (by kernel_rfl) (fun _ _ _ h => h) (by rfl) (by assumption) ?_ ?_
        rotate_left 1
        · (intro W hSw; (try dsimp only at hSw); go_simp; (try with_reducible rfl))
        (try simp only [Act.put, List.setIfInBounds_toArray, List.set_cons_zero, List.set_cons_succ])
        refine pop_take 8 (v := ?_) rfl (by kernel_rfl) (by kernel_rfl) (by kernel_rfl) (fun _ _ _ h => h) (by rfl) (by assumption) ?_ ?_
        rotate_left 1
        · (intro W hSw; (try dsimp only at hSw); go_simp; (try with_reducible rfl))
        (try simp only [Act.put, List.setIfInBounds_toArray, List.set_cons_zero, List.set_cons_succ])
        by_cases hk0 : 0 < k
        · have hk4 : (0 : Int) < (k : Int) := by omega
          have hkc : (k : Int) ≤ (c2 : Int) := by have h : l.length ≤ c2 := HC.out; omega
          refine pop_take 9 (v := ?_) rfl (by kernel_rfl) (by kernel_rfl) (by kernel_rfl) (fun _ _ _ h => h) (by rfl) (by assumption) ?_ ?_
          rotate_left 1
          · (intro W hSw; (try dsimp only at hSw); go_simp; (try with_reducible rfl))
          (try simp only [Act.put, List.setIfInBounds_toArray, List.set_cons_zero, List.set_cons_succ])
          refine pop_take 10 (v := ?_) rfl (by kernel_rfl) (by kernel_rfl) (by kernel_rfl) (fun _ _ _ h => h) (by rfl) (by assumption) ?_ ?_
          rotate_left 1
          · (intro W hSw; (try dsimp only at hSw); go_simp; (try with_reducible rfl))
          (try simp only [Act.put, List.setIfInBounds_toArray, List.set_cons_zero, List.set_cons_succ])
          refine pop_take 11 (v := ?_) rfl (by kernel_rfl) (by kernel_rfl) (by kernel_rfl) (fun _ _ _ h => h) (by rfl) (by assumption) ?_ ?_
          rotate_left 1
          · (intro W hSw; (try dsimp only at hSw); go_simp; (try with_reducible rfl))
          (try simp only [Act.put, List.setIfInBounds_toArray, List.set_cons_zero, List.set_cons_succ])
          refine pop_take 12 (v := ?_) rfl (by kernel_rfl) (by kernel_rfl) (by kernel_rfl) (fun _ _ _ h => h) (by rfl) (by assumption) ?_ ?_
          rotate_left 1
          · (intro W hSw; (try dsimp only at hSw); go_simp; (try with_reducible rfl))
          (try simp only [Act.put, List.setIfInBounds_toArray, List.set_cons_zero, List.set_cons_succ])
          refine pop_take 13 (v := ?_) rfl (by kernel_rfl) (by kernel_rfl) (by kernel_rfl) (fun _ _ _ h => h) (by rfl) (by assumption) ?_ ?_
          rotate_left 1
          · (intro W hSw; (try dsimp only at hSw); go_simp; (try with_reducible rfl))
          (try simp only [Act.put, List.setIfInBounds_toArray, List.set_cons_zero, List.set_cons_succ])
          refine pop_take 14 (v := ?_) rfl (by kernel_rfl) (by kernel_rfl) (by kernel_rfl) (fun _ _ _ h => h) (by rfl) (by assumption) ?_ ?_
          rotate_left 1
          · (intro W hSw; (try dsimp only at hSw); go_simp; (try with_reducible rfl))
          (try simp only [Act.put, List.setIfInBounds_toArray, List.set_cons_zero, List.set_cons_succ])
          refine pop_take 15 (v := ?_) rfl (by kernel_rfl) (by kernel_rfl) (by kernel_rfl) (fun _ _ _ h => h) (by rfl) (by assumption) ?_ ?_
          rotate_left 1
          · (intro W hSw; (try dsimp only at hSw); go_simp; (try with_reducible rfl))
          (try simp only [Act.put, List.setIfInBounds_toArray, List.set_cons_zero, List.set_cons_succ])
          refine pop_take 16 (v := ?_) rfl (by kernel_rfl) (by kernel_rfl) (by kernel_rfl) (fun _ _ _ h => h) (by rfl) (by assumption) ?_ ?_
          rotate_left 1
          · (intro W hSw; (try dsimp only at hSw); go_simp; (try with_reducible rfl))
          (try simp only [Act.put, List.setIfInBounds_toArray, List.set_cons_zero, List.set_cons_succ])
          refine pop_take 17 (v := ?_) rfl (by kernel_rfl) (by kernel_rfl) (by kernel_rfl) (fun _ _ _ h => h) (by rfl) (by assumption) ?_ ?_
          rotate_left 1
          · (intro W hSw; (try dsimp only at hSw); go_simp; (try with_reducible rfl))
          (try simp only [Act.put, List.setIfInBounds_toArray, List.set_cons_zero, List.set_cons_succ])
          refine pop_one 18 (by kernel_rfl) rfl (fun K hK => ?_)
          go_simp
          (go_at_call 21; (with_reducible refine (C2.out _ hHeld.1 _).mono ?_); rintro e x2 ⟨rfl, rfl⟩)
          go_wp2_with fail
          refine hK.out _ _ ?_ (fun hHeld => ?_)
          · exact hHeld
          clear hK K
          (try simp only [Act.put, List.setIfInBounds_toArray, List.set_cons_zero, List.set_cons_succ])
          refine pop_take 19 (v := ?_) rfl (by kernel_rfl) (by kernel_rfl) (by kernel_rfl) (fun _ _ _ h => h) (by rfl) (by assumption) ?_ ?_
          rotate_left 1
          · (intro W hSw; (try dsimp only at hSw); go_simp; (try with_reducible rfl))
          (try simp only [Act.put, List.setIfInBounds_toArray, List.set_cons_zero, List.set_cons_succ])
          refine pop_take 20 (v := ?_) rfl (by kernel_rfl) (by kernel_rfl) (by kernel_rfl) (fun _ _ _ h => h) (by rfl) (by assumption) ?_ ?_
          rotate_left 1
          · (intro W hSw; (try dsimp only at hSw); go_simp; (try with_reducible rfl))
          (try simp only [Act.put, List.setIfInBounds_toArray, List.set_cons_zero, List.set_cons_succ])
          refine wpAnyH_done (by kernel_rfl) ?_ _
          clear C1 C2 q0
          have q := hHeld.1
          go_wp2_with fail
          go_roundw
          case rel => exact ⟨k + 1, by omega, by go_num, G.trans q, S.grow q, U.grow q, V.grow q, y3.grow q, y4.grow q⟩
          case measure => simp [intOf]; omega
        · have hk4 : ¬ (0 : Int) < (k : Int) := by omega
          refine pop_take 9 (v := ?_) rfl (by kernel_rfl) (by kernel_rfl) (by kernel_rfl) (fun _ _ _ h => h) (by rfl) (by assumption) ?_ ?_
          rotate_left 1
          · (intro W hSw; (try dsimp only at hSw); go_simp; (try with_reducible rfl))
          (try simp only [Act.put, List.setIfInBounds_toArray, List.set_cons_zero, List.set_cons_succ])
          refine pop_take 10 (v := ?_) rfl (by kernel_rfl) (by kernel_rfl) (by kernel_rfl) (fun _ _ _ h => h) (by rfl) (by assumption) ?_ ?_
          rotate_left 1
          · (intro W hSw; (try dsimp only at hSw); go_simp; (try with_reducible rfl))
          (try simp only [Act.put, List.setIfInBounds_toArray, List.set_cons_zero, List.set_cons_succ])
          refine pop_skip 11 rfl (by kernel_rfl) (by kernel_rfl) (by kernel_rfl) (fun _ _ _ h => h) (by rfl) (by assumption) ?_
          (try simp only [Act.put, List.setIfInBounds_toArray, List.set_cons_zero, List.set_cons_succ])
          refine pop_skip 12 rfl (by kernel_rfl) (by kernel_rfl) (by kernel_rfl) (fun _ _ _ h => h) (by rfl) (by assumption) ?_
          (try simp only [Act.put, List.setIfInBounds_toArray, List.set_cons_zero, List.set_cons_succ])
          refine pop_skip 13 rfl (by kernel_rfl) (by kernel_rfl) (by kernel_rfl) (fun _ _ _ h => h) (by rfl) (by assumption) ?_
          (try simp only [Act.put, List.setIfInBounds_toArray, List.set_cons_zero, List.set_cons_succ])
          refine pop_skip 14 rfl (by kernel_rfl) (by kernel_rfl) (by kernel_rfl) (fun _ _ _ h => h) (by rfl) (by assumption) ?_
          (try simp only [Act.put, List.setIfInBounds_toArray, List.set_cons_zero, List.set_cons_succ])
          refine pop_skip 15 rfl (by kernel_rfl) (by kernel_rfl) (by kernel_rfl) (fun _ _ _ h => h) (by rfl) (by assumption) ?_
          (try simp only [Act.put, List.setIfInBounds_toArray, List.set_cons_zero, List.set_cons_succ])
          refine pop_skip 16 rfl (by kernel_rfl) (by kernel_rfl) (by kernel_rfl) (fun _ _ _ h => h) (by rfl) (by assumption) ?_
          (try simp only [Act.put, List.setIfInBounds_toArray, List.set_cons_zero, List.set_cons_succ])
          refine pop_skip 17 rfl (by kernel_rfl) (by kernel_rfl) (by kernel_rfl) (fun _ _ _ h => h) (by rfl) (by assumption) ?_
          (try simp only [Act.put, List.setIfInBounds_toArray, List.set_cons_zero, List.set_cons_succ])
          refine pop_skip 18 rfl (by kernel_rfl) (by kernel_rfl) (by kernel_rfl) (fun _ _ _ h => h) (by rfl) (by assumption) ?_
          (try simp only [Act.put, List.setIfInBounds_toArray, List.set_cons_zero, List.set_cons_succ])
          refine pop_take 19 (v := ?_) rfl (by kernel_rfl) (by kernel_rfl) (by kernel_rfl) (fun _ _ _ h => h) (by rfl) (by assumption) ?_ ?_
          rotate_left 1
          · (intro W hSw; (try dsimp only at hSw); go_simp; (try with_reducible rfl))
          (try simp only [Act.put, List.setIfInBounds_toArray, List.set_cons_zero, List.set_cons_succ])
          refine pop_take 20 (v := ?_) rfl (by kernel_rfl) (by kernel_rfl) (by kernel_rfl) (fun _ _ _ h => h) (by rfl) (by assumption) ?_ ?_
          rotate_left 1
          · (intro W hSw; (try dsimp only at hSw); go_simp; (try with_reducible rfl))
          (try simp only [Act.put, List.setIfInBounds_toArray, List.set_cons_zero, List.set_cons_succ])
          refine wpAnyH_done (by kernel_rfl) ?_ _
          clear C1 C2 q0
          have q := hHeld.1
          go_wp2_with fail
          go_roundw
          case rel => exact ⟨k + 1, by omega, by go_num, G.trans q, S.grow q, U.grow q, V.grow q, y3.grow q, y4.grow q⟩
          case measure => simp [intOf]; omega
      · have hk2 : ¬ (k : Int) < (l.length : Int) := by omega
        obtain ⟨k0, k1, _, _⟩ := y3.facts
        obtain ⟨m0, m1, m2⟩ := y4.facts
        by_cases hkd : x.k = 2
        · have b1 : (x.k == 2) = true := by simp [hkd]
          by_cases hl1 : l.length = 1
          · have HO := Lib.hid (L.out.one hkd hl1)
            have b2 : ((l.length : Int) == 1) = true := by simp [hl1]
            clear hkd hl1
            go_wp2_with fail
            refine (AtomCells_c A1 B1 c1 d1 ⟨v, h⟩ ⟨1, x.a, x.b⟩ _ (S.grow (by repeat (first | exact Grow.refl _ | assumption | refine Grow.alloc ?_ _ | refine Grow.drew ?_ | refine Grow.drewN ?_ _ | refine Grow.trans ?_ (by assumption) | refine Grow.below ?_ (by assumption) (by first | exact Nat.le_refl _ | omega)))) (by show v.length ≤ _; omega) (by show h.length ≤ _; omega)).mono ?_
            rw [HO.out]
            rintro e w7 ⟨A7, c7, rfl, o7, g7⟩
            have U7 := OInts.ints rfl o7
            go_wp2_with fail
            refine (slInts_c A7 A2 c7 c2 l l _ U7 (U.grow (by repeat (first | exact Grow.refl _ | assumption | refine Grow.alloc ?_ _ | refine Grow.drew ?_ | refine Grow.drewN ?_ _ | refine Grow.trans ?_ (by assumption) | refine Grow.below ?_ (by assumption) (by first | exact Nat.le_refl _ | omega)))) (by omega) (by omega)).mono ?_
            rintro e w8 ⟨rfl, g8⟩
            go_wp2_with fail
            go_ret
            exact ⟨by simp, G.trans (Grow.trans (by repeat (first | exact Grow.refl _ | assumption | refine Grow.alloc ?_ _ | refine Grow.drew ?_ | refine Grow.drewN ?_ _ | refine Grow.trans ?_ (by assumption) | refine Grow.below ?_ (by assumption) (by first | exact Nat.le_refl _ | omega))) g8)⟩
          · have b2 : ((l.length : Int) == 1) = false := by simp; omega
            clear hkd hl1
            go_wp2_with fail
            go_ret
            exact ⟨rfl, G⟩
        · have hl1 : l.length = 1 := by rcases L.out.len with h | h; exact absurd h hkd; exact h
          have b1 : (x.k == 2) = false := by simp [hkd]
          have b2 : ((l.length : Int) == 1) = true := by simp [hl1]
          clear hkd hl1
          go_wp2_with fail
          go_ret
          exact ⟨rfl, G⟩

set_option maxRecDepth 100000 in
theorem lifted (os : Os) (started : os.Started) (H : Type) (enc : TypeId × Value → H) :
    ReturnsInHanded {} Try.checked os 5 .any (Rows.fnAtomCellsSpec.pre6 enc Try.prog Try.f5 Rows.fnAtomCellsRow.domain false) (Rows.fnAtomCellsSpec.post enc Try.prog Try.f5 false true false false) := by
  refine returnsInHanded_of_change (C := Try.checked) own_knob started (by kernel_rfl) Try.func5
    (ChangeSpec.witness6 (enc := enc) (C := Try.checked) false ⟨#[], #[.slice none 0 0], []⟩ 8 (by kernel_rfl) (by kernel_rfl) (by kernel_rfl) (by kernel_rfl)) ?_
  intro W base args ds gs before hval0 hW hcnd _
  have hval : ∀ (j : Nat) t v, Try.f5.params[j]? = some t → args[j]? = some v → Value.okWide Try.prog W .any base t v := hval0
  have hW' := hW
  obtain ⟨p, q, hA0, hV, rfl, hfz, hnd⟩ := hW
  have hA : DataW.TrodAll enc Try.prog W 0 (fun _ => true) true Try.f5.params.toList args.toList ds p := hA0
  rw [Try.params5] at hA hval
  obtain ⟨v0, vs0, d0, ds0, p0, q0, hargs, rfl, rfl, h0, r0⟩ := trodAll_cons hA
  obtain ⟨rfl, rfl, rfl⟩ := trodAll_nil r0
  obtain rfl : args = #[v0] := by cases args; simp_all
  obtain ⟨rfl, rfl⟩ := trodVars_none hV
  have k0 := h0
  have lt0 : ∀ x ∈ p0, x.block < W.heap.size := by obtain ⟨m, hm⟩ := k0; exact DataW.trod_lt m _ _ _ hm
  obtain ⟨a0, len0, cap0, rfl⟩ := okWide_slice Try.underlying37 (hval 0 37 v0 rfl rfl)
  obtain ⟨hb0, w0, hc0⟩ : len0 ≤ 9223372036854775807 ∧ Bytes W a0 len0 ∧ len0 ≤ cap0 := by
    obtain ⟨fuel, hf⟩ := h0
    exact open_bytesL (by simpa [Value.cells] using hf)
  clear hA0 hval0
  refine (walk a0 cap0 len0 W w0 hb0 hc0).mono fun e W' ⟨he, bel⟩ => ?_
  subst he
  exact ⟨_, rfl, _, _, _, [], _, [], hW', trodAll_mk1 (shut_bool Try.underlying4 _), (trodAll_cons_mk (Below.trod laid_out (by kernel_rfl) (of_decide_eq_true (by kernel_rfl)) k0 bel lt0) trodAll_mk0), rfl, bel.frame _, fun h => by cases h⟩

theorem over : Rows.fnAtomCellsRow.holds Try.pinned (OpenSpec.ofChange Rows.fnAtomCellsSpec) :=
  OpenClaim.holds_of_wide 5 Try.f5 rfl rfl rfl rfl rfl rfl rfl ⟨rfl, rfl, rfl, rfl, rfl⟩ rfl rfl rfl rfl rfl (by kernel_rfl) Try.func5 (by kernel_rfl)
    (of_decide_eq_true (by kernel_rfl)) (by unfold Func.isWrapper; first | (rw [if_pos (by decide +kernel)]; kernel_rfl) | (rw [if_neg (by decide +kernel)]; exact ⟨rfl, rfl⟩))
    (fun os started H enc _ => lifted os started H enc)

/-- The statement. -/
theorem proved : Rows.FnAtomCellsSaid := over
#print axioms proved

end Go.Proofs.Ytlcijjbeikoppaa.lawFnAtomCells
