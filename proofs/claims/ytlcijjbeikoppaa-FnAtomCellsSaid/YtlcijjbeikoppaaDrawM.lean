/- l4Build: a state in which an assertion often holds is of eight values and eight cells. No conditions but the bounds on what the reader has picked. -/
import Derived.Test.YtlcijjbeikoppaaDrawL
import Derived.Test.YtlcijjbeikoppaaSt7
namespace Go.Proofs.Ytlcijjbeikoppaa
open Go.RowKit
set_option linter.unusedVariables false

/-- All that l4Build carries: reader, growth, its boxes, the state's rows, the assertion's. -/
structure Bu (w : World) (g q bS lo loa : Nat) (A B : Option Addr) (c d : Nat) (s : Pl.Asr) (A1 B1 : Option Addr) (c1 d1 : Nat) (v h : List Int) (wr : World) : Prop where
  rd : RD wr g q
  by_ : w.grownBy wr (some g)
  big : bS < wr.heap.size
  y3 : Box2 wr w.heap.size 30 (.slice A s.f.length c) (.slice B s.a.length d)
  y4 : Box2 wr (w.heap.size + 1) 43 (.slice none 0 0) (.slice none 0 0)
  y5 : Box2 wr bS 43 (.slice A1 v.length c1) (.slice B1 h.length d1)
  o : OSt wr lo A1 B1 c1 d1 ⟨v, h⟩
  bv : Bd lo bS (.slice A1 v.length c1)
  bh : Bd lo bS (.slice B1 h.length d1)
  sv : Bd loa w.heap.size (.slice A s.f.length c)
  sh : Bd loa w.heap.size (.slice B s.a.length d)
  os : OAs wr loa A B c d s
/-- The fixed bounds. -/
structure Bf (w : World) (g bS lo loa : Nat) : Prop where
  hg : g < loa
  hloa : loa ≤ w.heap.size
  hlo : lo = w.heap.size + 2
  hbS : lo ≤ bS

theorem Bu.more {w : World} {g q q' bS lo loa : Nat} {A B : Option Addr} {c d : Nat} {s : Pl.Asr} {A1 B1 : Option Addr} {c1 d1 : Nat} {v h : List Int} {wr : World} (k : Bu w g q bS lo loa A B c d s A1 B1 c1 d1 v h wr) (hq : q ≤ q') : Bu w g q' bS lo loa A B c d s A1 B1 c1 d1 v h wr := { k with rd := k.rd.more hq }
/-- A step that writes the reader alone. -/
theorem Bu.pick {w : World} {g q q' bS lo loa : Nat} {A B : Option Addr} {c d : Nat} {s : Pl.Asr} {A1 B1 : Option Addr} {c1 d1 : Nat} {v h : List Int} {wr w' : World} (k : Bu w g q bS lo loa A B c d s A1 B1 c1 d1 v h wr) (f : Bf w g bS lo loa) (hr : RD w' g q') (b : wr.grownBy w' (some g)) : Bu w g q' bS lo loa A B c d s A1 B1 c1 d1 v h w' := by
  have := f.hg; have := f.hloa; have := f.hlo; have := f.hbS
  exact ⟨hr, by_trans k.by_ b, Nat.lt_of_lt_of_le k.big b.size, k.y3.kept b (by intro e; injection e with e; omega), k.y4.kept b (by intro e; injection e with e; omega), k.y5.kept b (by intro e; injection e with e; omega), k.o.kept b (fun j hj => by injection hj with hj; omega), k.bv, k.bh, k.sv, k.sh, k.os.kept b (fun j hj => by injection hj with hj; omega)⟩
theorem Bu.grow {w : World} {g q bS lo loa : Nat} {A B : Option Addr} {c d : Nat} {s : Pl.Asr} {A1 B1 : Option Addr} {c1 d1 : Nat} {v h : List Int} {wr w' : World} (k : Bu w g q bS lo loa A B c d s A1 B1 c1 d1 v h wr) (f : Bf w g bS lo loa) (b : Grow wr w') : Bu w g q bS lo loa A B c d s A1 B1 c1 d1 v h w' := k.pick f (k.rd.grow b) (b.by_ _)
/-- The values were written, in place; then the box. -/
theorem Bu.vals {w : World} {g q bS lo loa : Nat} {A B : Option Addr} {c d : Nat} {s : Pl.Asr} {A1 B1 : Option Addr} {c1 d1 : Nat} {v v' h : List Int} {wr w' : World} (k : Bu w g q bS lo loa A B c d s A1 B1 c1 d1 v h wr) (f : Bf w g bS lo loa) (hl : v'.length = v.length) (o : OSt w' lo A1 B1 c1 d1 ⟨v', h⟩) (b : wr.grownBy w' (Value.slice A1 v.length c1).ownBlock) :
    Bu w g q bS lo loa A B c d s A1 B1 c1 d1 v' h ((w'.setCell ⟨bS, 0, none⟩ (.slice A1 v'.length c1)).setCell ⟨bS, 1, none⟩ (.slice B1 h.length d1)) := by
  have := f.hg; have := f.hloa; have := f.hlo; have := f.hbS
  have bv' : Bd lo bS (.slice A1 v'.length c1) := by rw [hl]; exact k.bv
  have hrow : ∀ j, (Value.slice A1 v.length c1).ownBlock = some j → lo ≤ j ∧ j < bS := k.bv
  have y5 := k.y5.kept b (fun e => by have := (hrow _ e).2; omega)
  refine ⟨rd_far (rd_far (k.rd.off b (fun j hj => by have := (hrow j hj).1; omega)) (by show g < bS; omega) _) (by show g < bS; omega) _, by_set2 (by_set2 (by_row k.by_ b (fun j hj => by have := (hrow j hj).1; omega)) (by show w.heap.size ≤ bS; omega) _) (by show w.heap.size ≤ bS; omega) _, by
      have := k.big; have := b.size
      show bS < ((w'.setCell _ _).setCell _ _).heap.size
      simp [World.setCell]; omega, ((k.y3.kept b (fun e => by have := (hrow _ e).1; omega)).far (by show w.heap.size ≠ bS; omega) _).far (by show w.heap.size ≠ bS; omega) _, ((k.y4.kept b (fun e => by have := (hrow _ e).1; omega)).far (by show w.heap.size + 1 ≠ bS; omega) _).far (by show w.heap.size + 1 ≠ bS; omega) _, (y5.set0 _).set1 _, (o.off bv' k.bh (Nat.le_refl _) _).off bv' k.bh (Nat.le_refl _) _, bv', k.bh, k.sv, k.sh, ?_⟩
  have ks : OAs w' loa A B c d s := ⟨own_kept k.os.v b (fun j hj e => by have := (hrow j e).1; have := (k.sv j hj).2; omega), own_kept k.os.h b (fun j hj e => by have := (hrow j e).1; have := (k.sh j hj).2; omega), k.os.ap⟩
  have off : ∀ (W : World) (p : Addr) (u : Value), p.block = bS → OAs W loa A B c d s → OAs (W.setCell p u) loa A B c d s := fun W p u hp o => ⟨own_far o.v (fun j hj e => by have := (k.sv j hj).2; omega) u, own_far o.h (fun j hj e => by have := (k.sh j hj).2; omega) u, o.ap⟩
  exact off _ _ _ rfl (off _ _ _ rfl ks)
/-- A cell of the heap was written. -/
theorem Bu.heap {w : World} {g q bS lo loa : Nat} {A B : Option Addr} {c d : Nat} {s : Pl.Asr} {A1 : Option Addr} {gB c1 d1 : Nat} {v h : List Int} {wr : World} (k : Bu w g q bS lo loa A B c d s A1 (some ⟨gB, 0, none⟩) c1 d1 v h wr) (f : Bf w g bS lo loa) (j : Nat) (x : Int) (hgB : lo ≤ gB ∧ gB < bS) :
    Bu w g q bS lo loa A B c d s A1 (some ⟨gB, 0, none⟩) c1 d1 v (h.set j x) (wr.setCell ⟨gB, j, none⟩ (.int .i64 x)) := by
  have := f.hg; have := f.hloa; have := f.hlo; have := f.hbS
  refine ⟨rd_far k.rd (by show g < gB; omega) _, by_set2 k.by_ (by show w.heap.size ≤ gB; omega) _, by have := k.big; show bS < (wr.setCell _ _).heap.size; simp [World.setCell]; omega, k.y3.far (by show w.heap.size ≠ gB; omega) _, k.y4.far (by show w.heap.size + 1 ≠ gB; omega) _, by rw [List.length_set]; exact k.y5.far (by show bS ≠ gB; omega) _, k.o.setH x, k.bv, by rw [List.length_set]; exact k.bh, k.sv, k.sh, ?_⟩
  exact ⟨own_far k.os.v (fun j hj e => by have := (k.sv j hj).2; have e' : gB = j := e; omega) _, own_far k.os.h (fun j hj e => by have := (k.sh j hj).2; have e' : gB = j := e; omega) _, k.os.ap⟩
theorem Bu.vk {w : World} {g q bS lo loa : Nat} {A B : Option Addr} {c d : Nat} {s : Pl.Asr} {A1 B1 : Option Addr} {c1 d1 : Nat} {v h : List Int} {wr : World} (k : Bu w g q bS lo loa A B c d s A1 B1 c1 d1 v h wr) : some bS ≠ (Value.slice A1 v.length c1).ownBlock := fun e => by have := (k.bv bS e.symm).2; omega




set_option maxRecDepth 100000 in
set_option maxHeartbeats 6400000 in
theorem l4Build_c (g q loa : Nat) (A B : Option Addr) (c d : Nat) (s : Pl.Asr) (w : World) (hr : RD w g q) (hq : q ≤ 700000) (hS : OAs w loa A B c d s) (hg : g < loa) (hloa : loa ≤ w.heap.size) (hv : Pl.asv s = true) :
    Calls Try.prog 49 #[.pointer (some ⟨g, 0, none⟩), asval A B c d s] w fun e w' => (∃ A B c d v h, e = .returned (sval A B c d ⟨v, h⟩) ∧ OSt w' w.heap.size A B c d ⟨v, h⟩ ∧ v.length = 8 ∧ h.length = 8) ∧ RD w' g (q + 40) ∧ w.grownBy w' (some g) := by
  have y3 := (Box2.new w 30 (.slice A s.f.length c) (.slice B s.a.length d)).grow (show Grow _ ((w.alloc (.cells #[.slice A s.f.length c, .slice B s.a.length d] 30)).alloc (.cells #[.slice none 0 0, .slice none 0 0] 43)) from Grow.alloc (Grow.refl _) _)
  have y4 := Box2.new (w.alloc (.cells #[.slice A s.f.length c, .slice B s.a.length d] 30)) 43 (.slice none 0 0) (.slice none 0 0)
  have G0 : Grow w ((w.alloc (.cells #[.slice A s.f.length c, .slice B s.a.length d] 30)).alloc (.cells #[.slice none 0 0, .slice none 0 0] 43)) := (by repeat (first | exact Grow.refl _ | assumption | refine Grow.alloc ?_ _ | refine Grow.drew ?_ | refine Grow.drewN ?_ _ | refine Grow.trans ?_ (by assumption) | refine Grow.below ?_ (by assumption) (by first | exact Nat.le_refl _ | omega)))
  have hz0 : ((w.alloc (.cells #[.slice A s.f.length c, .slice B s.a.length d] 30)).alloc (.cells #[.slice none 0 0, .slice none 0 0] 43)).heap.size = w.heap.size + 2 := by simp
  simp only [World.size_alloc] at y4
  have HA := Lib.hid hv
  have hf12 : s.f.length ≤ 12 := (Pl.asv_len hv).1
  have ha6 : s.a.length ≤ 6 := (Pl.asv_len hv).2
  clear hv
  go_enter Try.func49, Try.ntmps49
  go_wp2_with fail
  generalize (w.alloc (.cells #[.slice A s.f.length c, .slice B s.a.length d] 30)).alloc (.cells #[.slice none 0 0, .slice none 0 0] 43) = w2 at *
  refine (l2Blank_c _).mono ?_
  rintro e w3 ⟨A1, B1, c1, d1, v, h, rfl, o1, hv8, hh8, g1⟩
  rw [hz0] at o1
  have F : Bf w g w3.heap.size (w.heap.size + 2) loa := ⟨hg, hloa, rfl, by have := g1.le; omega⟩
  have G3 : Grow w3 (w3.alloc (.cells #[.slice A1 v.length c1, .slice B1 h.length d1] 43)) := (by repeat (first | exact Grow.refl _ | assumption | refine Grow.alloc ?_ _ | refine Grow.drew ?_ | refine Grow.drewN ?_ _ | refine Grow.trans ?_ (by assumption) | refine Grow.below ?_ (by assumption) (by first | exact Nat.le_refl _ | omega)))
  have K : Bu w g q w3.heap.size (w.heap.size + 2) loa A B c d s A1 B1 c1 d1 v h (w3.alloc (.cells #[.slice A1 v.length c1, .slice B1 h.length d1] 43)) :=
    ⟨hr.grow (G0.trans (g1.trans G3)), (G0.trans (g1.trans G3)).by_ _, by simp, (y3.grow g1).grow G3, (y4.grow g1).grow G3, Box2.new _ _ _ _, o1.grow G3, o1.bdv, o1.bdh, own_bd hS.v, own_bd hS.h, hS.grow (G0.trans (g1.trans G3))⟩
  obtain ⟨gB, rfl, hgl0, hgs0⟩ := own_some o1.h (by show 0 < h.length; omega)
  clear hgl0 hgs0
  have V0 := Lib.hid (show VP 0 v from ⟨hv8, fun j hj => by omega⟩)
  have H0 := Lib.hid hh8
  clear y3 y4 G0 hz0 o1 g1 G3 hv8 hh8 hr hS
  go_wp2_with fail
  generalize w3.alloc (.cells #[.slice A1 v.length c1, .slice (some ⟨gB, 0, none⟩) h.length d1] 43) = w4 at *
  go_loopw [7] (fun i wr => ∃ (k : Nat) (v : List Int), k ≤ 8 ∧ i = .int .i64 ((k : Int) + 1) ∧ Hid (VP k v) ∧ Bu w g (q + 2 * k) w3.heap.size (w.heap.size + 2) loa A B c d s A1 (some ⟨gB, 0, none⟩) c1 d1 v h wr) (fun i _ => 10 - (intOf i).toNat)
  case atStart => exact ⟨0, v, Nat.zero_le _, rfl, V0, K⟩
  case round =>
    clear K V0
    obtain ⟨k, v, hk, rfl, VV, K⟩ := hrel
    by_cases hlt : k < 8
    · have hk1 : (k : Int) + 1 ≤ 8 := by omega
      obtain ⟨k0, k1, _, _⟩ := K.y5.facts
      have hne : ¬ w3.heap.size = g := by have := F.hg; have := F.hloa; have := F.hbS; omega
      go_wp2_with fail
      have hF0 : Dv wr g (q + 2 * k) [] wr := Dv.start K.rd
      refine pop_begin (S := (fun W => W.cell? ⟨w3.heap.size, 0, none⟩ = some (.slice A1 v.length c1) ∧ W.cell? ⟨w3.heap.size, 1, none⟩ = some (.slice (some ⟨gB, 0, none⟩) h.length d1))) (by kernel_rfl) (by kernel_rfl) (by kernel_rfl) rfl ?_ ?_
      · exact ⟨k0, k1⟩
      intro l last hl hlast hHeld
      simp only [List.dropLast] at hl
      simp only [List.getLast?, List.getLast, Option.some.injEq] at hlast
      subst hl
      subst hlast
      have hF := hF0.drew
      clear hF0
      generalize wr.drew = W0 at *
      refine pop_take 0 (v := ?_) rfl (by kernel_rfl) (by kernel_rfl) (by kernel_rfl) (fun _ _ _ h => h) (by rfl) (by assumption) ?_ ?_
      rotate_left 1
      · (intro W hSw; (try dsimp only at hSw); go_simp; (try with_reducible rfl))
      (try simp only [Act.put, List.setIfInBounds_toArray, List.set_cons_zero, List.set_cons_succ])
      refine pop_take 1 (v := ?_) rfl (by kernel_rfl) (by kernel_rfl) (by kernel_rfl) (fun _ _ _ h => h) (by rfl) (by assumption) ?_ ?_
      rotate_left 1
      · (intro W hSw; (try dsimp only at hSw); go_simp; (try with_reducible rfl))
      (try simp only [Act.put, List.setIfInBounds_toArray, List.set_cons_zero, List.set_cons_succ])
      refine pop_take 2 (v := ?_) rfl (by kernel_rfl) (by kernel_rfl) (by kernel_rfl) (fun _ _ _ h => h) (by rfl) (by assumption) ?_ ?_
      rotate_left 1
      · (intro W hSw; (try dsimp only at hSw); go_simp; (try with_reducible rfl))
      (try simp only [Act.put, List.setIfInBounds_toArray, List.set_cons_zero, List.set_cons_succ])
      refine pop_take 3 (v := ?_) rfl (by kernel_rfl) (by kernel_rfl) (by kernel_rfl) (fun _ _ _ h => h) (by rfl) (by assumption) ?_ ?_
      rotate_left 1
      · (intro W hSw; (try dsimp only at hSw); go_simp; (try with_reducible rfl))
      (try simp only [Act.put, List.setIfInBounds_toArray, List.set_cons_zero, List.set_cons_succ])
      refine pop_take 4 (v := ?_) rfl (by kernel_rfl) (by kernel_rfl) (by kernel_rfl) (fun _ _ _ h => h) (by rfl) (by assumption) ?_ ?_
      rotate_left 1
      · (intro W hSw; (try dsimp only at hSw); go_simp; (try with_reducible rfl))
      (try simp only [Act.put, List.setIfInBounds_toArray, List.set_cons_zero, List.set_cons_succ])
      refine pop_take 5 (v := ?_) rfl (by kernel_rfl) (by kernel_rfl) (by kernel_rfl) (fun _ _ _ h => h) (by rfl) (by assumption) ?_ ?_
      rotate_left 1
      · (intro W hSw; (try dsimp only at hSw); go_simp; (try with_reducible rfl))
      (try simp only [Act.put, List.setIfInBounds_toArray, List.set_cons_zero, List.set_cons_succ])
      refine pop_one 6 (by kernel_rfl) rfl (fun K hK => ?_)
      go_simp
      (go_at_call 50; (with_reducible refine (hF.pick 5 _ (by simp) (by omega) (by omega) (by omega)).mono ?_); rintro e Wp ⟨⟨p, hp, rfl⟩, hF⟩)
      go_wp2_with fail
      refine hK.out _ _ ?_ (fun hHeld => ?_)
      · exact ⟨hF.cell k0 hne, hF.cell k1 hne⟩
      clear hK K
      (try simp only [Act.put, List.setIfInBounds_toArray, List.set_cons_zero, List.set_cons_succ])
      have hwp : IntKind.i64.wrap (1 + (p : Int)) = 1 + (p : Int) := by rw [IntKind.wrap_i64]; omega
      refine pop_take 7 (v := ?_) rfl (by kernel_rfl) (by kernel_rfl) (by kernel_rfl) (fun _ _ _ h => h) (by rfl) (by assumption) ?_ ?_
      rotate_left 1
      · (intro W hSw; (try dsimp only at hSw); go_simp; (try with_reducible rfl))
      (try simp only [Act.put, List.setIfInBounds_toArray, List.set_cons_zero, List.set_cons_succ])
      refine pop_one 8 (by kernel_rfl) rfl (fun K' hK => ?_)
      go_simp
      (with_reducible refine hF.lit [0, (k : Int) + 1, (k : Int) + 1, 1 + (p : Int)] _ (by simp) (by simp) ?_)
      intro Wl hF
      refine hK.out _ _ ⟨hF.cell k0 hne, hF.cell k1 hne⟩ (fun hHeld => ?_)
      clear hK K'
      (try simp only [Act.put, List.setIfInBounds_toArray, List.set_cons_zero, List.set_cons_succ])
      refine pop_one 9 (by kernel_rfl) rfl (fun K hK => ?_)
      go_simp
      (go_at_call 45; (with_reducible refine (hF.num _ _ _ [0, (k : Int) + 1, (k : Int) + 1, 1 + (p : Int)] (by simp) (by simp) (by simp) (by omega) (by simp) (by simp)).mono ?_); rintro e Wn ⟨⟨x, hx, rfl⟩, hF⟩)
      go_wp2_with fail
      refine hK.out _ _ ?_ (fun hHeld => ?_)
      · exact ⟨hF.cell k0 hne, hF.cell k1 hne⟩
      clear hK K
      (try simp only [Act.put, List.setIfInBounds_toArray, List.set_cons_zero, List.set_cons_succ])
      have hx8 : 0 ≤ x ∧ x ≤ 8 := by simp at hx; omega
      have K2 := K.pick F hF.rd hF.by_
      refine pop_one 10 (by kernel_rfl) rfl (fun K hK => ?_)
      go_simp
      (go_at_call 79; refine (l4Value_c (w.heap.size + 2) A1 (some ⟨gB, 0, none⟩) c1 d1 v h ((k : Int) + 1) x _ K2.o (Lib.hid VV.out.1) (by omega) hk1).mono ?_; rintro e Wv ⟨v', HE, hvl, rfl, o7, b7⟩)
      go_wp2_with fail
      refine hK.out _ _ ?_ (fun hHeld => ?_)
      · exact ⟨b7.cell hHeld.1 K2.vk, b7.cell hHeld.2 K2.vk⟩
      clear hK K
      (try simp only [Act.put, List.setIfInBounds_toArray, List.set_cons_zero, List.set_cons_succ])
      refine wpAnyH_done (by kernel_rfl) ?_ _
      simp only [lastPost]
      have K3 := K2.vals F hvl o7 b7
      have VV' := Lib.hid (show VP (k + 1) v' by rw [HE.out]; exact VV.out.step hx8.1 hx8.2)
      obtain ⟨p0, p1, p2, p3⟩ := (K2.y5.kept b7 (fun e => K2.vk e.symm)).facts
      clear k0 k1 K K2 hF hHeld HE hvl o7 b7 VV
      go_simp
      go_wp2_with fail
      go_roundw
      case rel => exact ⟨k + 1, v', by omega, by go_num, VV', K3.more (by omega)⟩
      case measure => simp [intOf]; omega
    · have hk1 : ¬ (k : Int) + 1 ≤ 8 := by omega
      have V8v := Lib.hid (show V8 v from VP.all (by have h8 : k = 8 := (by omega); subst h8; exact VV.out))
      have K1 := K.more (show q + 2 * k ≤ q + 16 by omega)
      clear VV K
      go_wp2_with fail
      clear hk1 hlt hk
      go_loopw [8] (fun i wr => ∃ (k : Nat) (v : List Int), k ≤ s.f.length ∧ i = .int .i64 k ∧ Hid (V8 v) ∧ Bu w g (q + 16) w3.heap.size (w.heap.size + 2) loa A B c d s A1 (some ⟨gB, 0, none⟩) c1 d1 v h wr) (fun i _ => s.f.length - (intOf i).toNat)
      case atStart => exact ⟨0, v, Nat.zero_le _, rfl, V8v, K1⟩
      case round =>
        clear K1 V8v
        obtain ⟨k, v, hk, rfl, VV, K⟩ := hrel
        obtain ⟨k0, k1, _, _⟩ := K.y5.facts
        obtain ⟨m0, m1, _, _⟩ := K.y3.facts
        by_cases hlt : k < s.f.length
        · obtain ⟨b, off, rfl, c0, c1', c2'⟩ := K.os.st.v.at_ hlt
          have hk2 : (k : Int) < (s.f.length : Int) := by omega
          have hk3 : (0 : Int) ≤ (k : Int) := by omega
          have FV := Lib.hid (((Pl.fsv_iff _).1 ((Pl.asv_iff s).1 HA.out).1).2 _ (List.getElem_mem hlt))
          cases he : s.f[k].e with
          | true =>
            rw [he] at c0
            clear he
            go_wp2_with fail
            refine pop_begin (S := (fun W => W.cell? ⟨w3.heap.size, 0, none⟩ = some (.slice A1 v.length c1) ∧ W.cell? ⟨w3.heap.size, 1, none⟩ = some (.slice (some ⟨gB, 0, none⟩) h.length d1) ∧ W.cell? ⟨w.heap.size, 0, none⟩ = some (.slice (some ⟨b, off, none⟩) s.f.length c) ∧ W.cell? ⟨b, off + k * 3 + 1, none⟩ = some (.int .i64 s.f[k].a) ∧ W.cell? ⟨b, off + k * 3 + 2, none⟩ = some (.int .i64 s.f[k].b))) (by kernel_rfl) (by kernel_rfl) (by kernel_rfl) rfl ?_ ?_
            · exact ⟨k0, k1, m0, c1', c2'⟩
            intro l last hl hlast hHeld
            simp only [List.dropLast] at hl
            simp only [List.getLast?, List.getLast, Option.some.injEq] at hlast
            subst hl
            subst hlast
            refine pop_take 0 (v := ?_) rfl (by kernel_rfl) (by kernel_rfl) (by kernel_rfl) (fun _ _ _ h => h) (by rfl) (by assumption) ?_ ?_
            rotate_left 1
            · (intro W hSw; (try dsimp only at hSw); go_simp; (try with_reducible rfl))
            (try simp only [Act.put, List.setIfInBounds_toArray, List.set_cons_zero, List.set_cons_succ])
            refine pop_take 1 (v := ?_) rfl (by kernel_rfl) (by kernel_rfl) (by kernel_rfl) (fun _ _ _ h => h) (by rfl) (by assumption) ?_ ?_
            rotate_left 1
            · (intro W hSw; (try dsimp only at hSw); go_simp; (try with_reducible rfl))
            (try simp only [Act.put, List.setIfInBounds_toArray, List.set_cons_zero, List.set_cons_succ])
            refine pop_take 2 (v := ?_) rfl (by kernel_rfl) (by kernel_rfl) (by kernel_rfl) (fun _ _ _ h => h) (by rfl) (by assumption) ?_ ?_
            rotate_left 1
            · (intro W hSw; (try dsimp only at hSw); go_simp; (try with_reducible rfl))
            (try simp only [Act.put, List.setIfInBounds_toArray, List.set_cons_zero, List.set_cons_succ])
            refine pop_take 3 (v := ?_) rfl (by kernel_rfl) (by kernel_rfl) (by kernel_rfl) (fun _ _ _ h => h) (by rfl) (by assumption) ?_ ?_
            rotate_left 1
            · (intro W hSw; (try dsimp only at hSw); go_simp; (try with_reducible rfl))
            (try simp only [Act.put, List.setIfInBounds_toArray, List.set_cons_zero, List.set_cons_succ])
            refine pop_take 4 (v := ?_) rfl (by kernel_rfl) (by kernel_rfl) (by kernel_rfl) (fun _ _ _ h => h) (by rfl) (by assumption) ?_ ?_
            rotate_left 1
            · (intro W hSw; (try dsimp only at hSw); go_simp; (try with_reducible rfl))
            (try simp only [Act.put, List.setIfInBounds_toArray, List.set_cons_zero, List.set_cons_succ])
            refine pop_take 5 (v := ?_) rfl (by kernel_rfl) (by kernel_rfl) (by kernel_rfl) (fun _ _ _ h => h) (by rfl) (by assumption) ?_ ?_
            rotate_left 1
            · (intro W hSw; (try dsimp only at hSw); go_simp; (try with_reducible rfl))
            (try simp only [Act.put, List.setIfInBounds_toArray, List.set_cons_zero, List.set_cons_succ])
            refine pop_take 6 (v := ?_) rfl (by kernel_rfl) (by kernel_rfl) (by kernel_rfl) (fun _ _ _ h => h) (by rfl) (by assumption) ?_ ?_
            rotate_left 1
            · (intro W hSw; (try dsimp only at hSw); go_simp; (try with_reducible rfl))
            (try simp only [Act.put, List.setIfInBounds_toArray, List.set_cons_zero, List.set_cons_succ])
            refine pop_take 7 (v := ?_) rfl (by kernel_rfl) (by kernel_rfl) (by kernel_rfl) (fun _ _ _ h => h) (by rfl) (by assumption) ?_ ?_
            rotate_left 1
            · (intro W hSw; (try dsimp only at hSw); go_simp; (try with_reducible rfl))
            (try simp only [Act.put, List.setIfInBounds_toArray, List.set_cons_zero, List.set_cons_succ])
            refine pop_take 8 (v := ?_) rfl (by kernel_rfl) (by kernel_rfl) (by kernel_rfl) (fun _ _ _ h => h) (by rfl) (by assumption) ?_ ?_
            rotate_left 1
            · (intro W hSw; (try dsimp only at hSw); go_simp; (try with_reducible rfl))
            (try simp only [Act.put, List.setIfInBounds_toArray, List.set_cons_zero, List.set_cons_succ])
            refine pop_take 9 (v := ?_) rfl (by kernel_rfl) (by kernel_rfl) (by kernel_rfl) (fun _ _ _ h => h) (by rfl) (by assumption) ?_ ?_
            rotate_left 1
            · (intro W hSw; (try dsimp only at hSw); go_simp; (try with_reducible rfl))
            (try simp only [Act.put, List.setIfInBounds_toArray, List.set_cons_zero, List.set_cons_succ])
            refine pop_take 10 (v := ?_) rfl (by kernel_rfl) (by kernel_rfl) (by kernel_rfl) (fun _ _ _ h => h) (by rfl) (by assumption) ?_ ?_
            rotate_left 1
            · (intro W hSw; (try dsimp only at hSw); go_simp; (try with_reducible rfl))
            (try simp only [Act.put, List.setIfInBounds_toArray, List.set_cons_zero, List.set_cons_succ])
            refine pop_take 11 (v := ?_) rfl (by kernel_rfl) (by kernel_rfl) (by kernel_rfl) (fun _ _ _ h => h) (by rfl) (by assumption) ?_ ?_
            rotate_left 1
            · (intro W hSw; (try dsimp only at hSw); go_simp; (try with_reducible rfl))
            (try simp only [Act.put, List.setIfInBounds_toArray, List.set_cons_zero, List.set_cons_succ])
            refine pop_take 12 (v := ?_) rfl (by kernel_rfl) (by kernel_rfl) (by kernel_rfl) (fun _ _ _ h => h) (by rfl) (by assumption) ?_ ?_
            rotate_left 1
            · (intro W hSw; (try dsimp only at hSw); go_simp; (try with_reducible rfl))
            (try simp only [Act.put, List.setIfInBounds_toArray, List.set_cons_zero, List.set_cons_succ])
            refine pop_take 13 (v := ?_) rfl (by kernel_rfl) (by kernel_rfl) (by kernel_rfl) (fun _ _ _ h => h) (by rfl) (by assumption) ?_ ?_
            rotate_left 1
            · (intro W hSw; (try dsimp only at hSw); go_simp; (try with_reducible rfl))
            (try simp only [Act.put, List.setIfInBounds_toArray, List.set_cons_zero, List.set_cons_succ])
            refine pop_take 14 (v := ?_) rfl (by kernel_rfl) (by kernel_rfl) (by kernel_rfl) (fun _ _ _ h => h) (by rfl) (by assumption) ?_ ?_
            rotate_left 1
            · (intro W hSw; (try dsimp only at hSw); go_simp; (try with_reducible rfl))
            (try simp only [Act.put, List.setIfInBounds_toArray, List.set_cons_zero, List.set_cons_succ])
            have K2 := K.grow F (show Grow wr wr.drew from (by repeat (first | exact Grow.refl _ | assumption | refine Grow.alloc ?_ _ | refine Grow.drew ?_ | refine Grow.drewN ?_ _ | refine Grow.trans ?_ (by assumption) | refine Grow.below ?_ (by assumption) (by first | exact Nat.le_refl _ | omega))))
            obtain ⟨hta, htb⟩ := (Pl.fv_iff _).1 FV.out
            have HL := Lib.hid VV.out.1
            refine pop_one 15 (by kernel_rfl) rfl (fun K hK => ?_)
            go_simp
            (go_at_call 80; (with_reducible refine (l1Value_n A1 c1 v s.f[k].b _ K2.o.st.v HL.out htb.1 htb.2).mono ?_); rintro e Wq ⟨rfl, rfl⟩)
            go_wp2_with fail
            refine hK.out _ _ ?_ (fun hHeld => ?_)
            · exact hHeld
            clear hK K
            (try simp only [Act.put, List.setIfInBounds_toArray, List.set_cons_zero, List.set_cons_succ])
            have hx8 := VV.out.tval htb.1 htb.2
            have hbb : ∀ o : Nat, some (⟨b, o, none⟩ : Addr).block ≠ (Value.slice A1 v.length c1).ownBlock := fun o e => by
              have h1 := (K2.bv b e.symm).1
              obtain ⟨gb, hgb, _, hlt2⟩ := own_some K2.os.v (by omega)
              have h2 := (K2.sv b (by injection hgb with hgb; injection hgb with e1 e2; subst e1; subst e2; rfl)).2
              omega
            refine pop_one 16 (by kernel_rfl) rfl (fun K hK => ?_)
            go_simp
            (go_at_call 79; refine (l4Value_c (w.heap.size + 2) A1 (some ⟨gB, 0, none⟩) c1 d1 v h s.f[k].a (Pl.tval v s.f[k].b) _ K2.o (Lib.hid VV.out.1) hta.1 hta.2).mono ?_; rintro e Wv ⟨v', HE, hvl, rfl, o7, b7⟩)
            go_wp2_with fail
            refine hK.out _ _ ?_ (fun hHeld => ?_)
            · exact ⟨b7.cell hHeld.1 K2.vk, b7.cell hHeld.2.1 K2.vk, b7.cell hHeld.2.2.1 (fun e => by have := (K2.bv _ e.symm).1; simp only at this; omega), b7.cell hHeld.2.2.2.1 (fun e => hbb 0 e), b7.cell hHeld.2.2.2.2 (fun e => hbb 0 e)⟩
            clear hK K
            (try simp only [Act.put, List.setIfInBounds_toArray, List.set_cons_zero, List.set_cons_succ])
            refine wpAnyH_done (by kernel_rfl) ?_ _
            simp only [lastPost]
            have K3 := K2.vals F hvl o7 b7
            have VV' := Lib.hid (show V8 v' by rw [HE.out]; exact l4v_V8 VV.out _ hx8.1 hx8.2)
            obtain ⟨p0, p1, p2, p3⟩ := (K2.y5.kept b7 (fun e => K2.vk e.symm)).facts
            clear k0 k1 m0 m1 c0 c1' c2' K K2 hHeld HE hvl o7 b7 VV
            go_simp
            go_wp2_with fail
            go_roundw
            case rel => exact ⟨k + 1, v', by omega, by go_num, VV', K3⟩
            case measure => simp [intOf]; omega
          | false =>
            rw [he] at c0
            clear he
            go_wp2_with fail
            go_roundw
            case rel => exact ⟨k + 1, v, by omega, by go_num, VV, K⟩
            case measure => simp [intOf]; omega
        · have hk2 : ¬ (k : Int) < (s.f.length : Int) := by omega
          go_wp2_with fail
          clear k0 k1 m0 m1 hk2 hlt hk
          go_loopw [6, 9, 10, 11] (fun nx i _ _ wr => ∃ (k n : Nat) (h : List Int), k ≤ s.a.length ∧ i = .int .i64 k ∧ nx = .int .i64 ((n : Int) + 1) ∧ n ≤ 7 ∧ Hid (h.length = 8) ∧ Bu w g (q + 16 + k) w3.heap.size (w.heap.size + 2) loa A B c d s A1 (some ⟨gB, 0, none⟩) c1 d1 v h wr) (fun _ i _ _ _ => s.a.length - (intOf i).toNat)
          case atStart => exact ⟨0, 0, h, Nat.zero_le _, rfl, rfl, by omega, H0, K⟩
          case round =>
            clear K H0
            obtain ⟨k, n, h, hk, rfl, rfl, hn7, HH, K⟩ := hrel
            obtain ⟨k0, k1, _, _⟩ := K.y5.facts
            obtain ⟨m0, m1, _, _⟩ := K.y3.facts
            have HL := Lib.hid VV.out.1
            by_cases hlt : k < s.a.length
            · obtain ⟨b, off, rfl, c0, c1', c2'⟩ := K.os.st.h.at_ hlt
              have hk2 : (k : Int) < (s.a.length : Int) := by omega
              have hk3 : (0 : Int) ≤ (k : Int) := by omega
              obtain ⟨_, hta, htb⟩ := (Pl.av_iff _).1 (((Pl.asv_iff s).1 HA.out).2.2 _ (List.getElem_mem hlt))
              have hta := (Pl.tmB_iff _).1 hta
              have htb := (Pl.tmB_iff _).1 htb
              have hxr := VV.out.tval hta.1 hta.2
              have hyr := VV.out.tval htb.1 htb.2
              obtain ⟨x, hx⟩ : ∃ x, x = Pl.tval v s.a[k].a := ⟨_, rfl⟩
              obtain ⟨y, hy⟩ : ∃ y, y = Pl.tval v s.a[k].b := ⟨_, rfl⟩
              rw [← hx] at hxr
              rw [← hy] at hyr
              have CX := Lib.hid (show ∀ W, Ints W A1 v → Calls Try.prog 80 #[.slice A1 v.length c1, .int .i64 s.a[k].a] W fun e w' => e = .returned (.int .i64 x) ∧ W = w' from fun W k' => by rw [hx]; exact l1Value_n A1 c1 v _ W k' HL.out hta.1 hta.2)
              have CY := Lib.hid (show ∀ W, Ints W A1 v → Calls Try.prog 80 #[.slice A1 v.length c1, .int .i64 s.a[k].b] W fun e w' => e = .returned (.int .i64 y) ∧ W = w' from fun W k' => by rw [hy]; exact l1Value_n A1 c1 v _ W k' HL.out htb.1 htb.2)
              clear hx hy hta htb
              have IV : Ints wr A1 v := K.o.st.v
              go_wp2_with fail
              refine pop_begin (S := (fun W => Grow wr W ∧ W.cell? ⟨w3.heap.size, 0, none⟩ = some (.slice A1 v.length c1) ∧ W.cell? ⟨w.heap.size, 1, none⟩ = some (.slice (some ⟨b, off, none⟩) s.a.length d) ∧ W.cell? ⟨b, off + k * 3 + 1, none⟩ = some (.int .i64 s.a[k].a))) (by kernel_rfl) (by kernel_rfl) (by kernel_rfl) rfl ?_ ?_
              · exact ⟨(by repeat (first | exact Grow.refl _ | assumption | refine Grow.alloc ?_ _ | refine Grow.drew ?_ | refine Grow.drewN ?_ _ | refine Grow.trans ?_ (by assumption) | refine Grow.below ?_ (by assumption) (by first | exact Nat.le_refl _ | omega))), k0, m1, c1'⟩
              intro l last hl hlast hHeld
              simp only [List.dropLast] at hl
              simp only [List.getLast?, List.getLast, Option.some.injEq] at hlast
              subst hl
              subst hlast
              refine pop_take 0 (v := ?_) rfl (by kernel_rfl) (by kernel_rfl) (by kernel_rfl) (fun _ _ _ h => h) (by rfl) (by assumption) ?_ ?_
              rotate_left 1
              · (intro W hSw; (try dsimp only at hSw); go_simp; (try with_reducible rfl))
              (try simp only [Act.put, List.setIfInBounds_toArray, List.set_cons_zero, List.set_cons_succ])
              refine pop_take 1 (v := ?_) rfl (by kernel_rfl) (by kernel_rfl) (by kernel_rfl) (fun _ _ _ h => h) (by rfl) (by assumption) ?_ ?_
              rotate_left 1
              · (intro W hSw; (try dsimp only at hSw); go_simp; (try with_reducible rfl))
              (try simp only [Act.put, List.setIfInBounds_toArray, List.set_cons_zero, List.set_cons_succ])
              refine pop_take 2 (v := ?_) rfl (by kernel_rfl) (by kernel_rfl) (by kernel_rfl) (fun _ _ _ h => h) (by rfl) (by assumption) ?_ ?_
              rotate_left 1
              · (intro W hSw; (try dsimp only at hSw); go_simp; (try with_reducible rfl))
              (try simp only [Act.put, List.setIfInBounds_toArray, List.set_cons_zero, List.set_cons_succ])
              refine pop_take 3 (v := ?_) rfl (by kernel_rfl) (by kernel_rfl) (by kernel_rfl) (fun _ _ _ h => h) (by rfl) (by assumption) ?_ ?_
              rotate_left 1
              · (intro W hSw; (try dsimp only at hSw); go_simp; (try with_reducible rfl))
              (try simp only [Act.put, List.setIfInBounds_toArray, List.set_cons_zero, List.set_cons_succ])
              refine pop_take 4 (v := ?_) rfl (by kernel_rfl) (by kernel_rfl) (by kernel_rfl) (fun _ _ _ h => h) (by rfl) (by assumption) ?_ ?_
              rotate_left 1
              · (intro W hSw; (try dsimp only at hSw); go_simp; (try with_reducible rfl))
              (try simp only [Act.put, List.setIfInBounds_toArray, List.set_cons_zero, List.set_cons_succ])
              refine pop_take 5 (v := ?_) rfl (by kernel_rfl) (by kernel_rfl) (by kernel_rfl) (fun _ _ _ h => h) (by rfl) (by assumption) ?_ ?_
              rotate_left 1
              · (intro W hSw; (try dsimp only at hSw); go_simp; (try with_reducible rfl))
              (try simp only [Act.put, List.setIfInBounds_toArray, List.set_cons_zero, List.set_cons_succ])
              refine pop_take 6 (v := ?_) rfl (by kernel_rfl) (by kernel_rfl) (by kernel_rfl) (fun _ _ _ h => h) (by rfl) (by assumption) ?_ ?_
              rotate_left 1
              · (intro W hSw; (try dsimp only at hSw); go_simp; (try with_reducible rfl))
              (try simp only [Act.put, List.setIfInBounds_toArray, List.set_cons_zero, List.set_cons_succ])
              refine pop_take 7 (v := ?_) rfl (by kernel_rfl) (by kernel_rfl) (by kernel_rfl) (fun _ _ _ h => h) (by rfl) (by assumption) ?_ ?_
              rotate_left 1
              · (intro W hSw; (try dsimp only at hSw); go_simp; (try with_reducible rfl))
              (try simp only [Act.put, List.setIfInBounds_toArray, List.set_cons_zero, List.set_cons_succ])
              refine pop_one 8 (by kernel_rfl) rfl (fun K hK => ?_)
              go_simp
              (go_at_call 80; (with_reducible refine (CX.out _ (IV.grow hHeld.1)).mono ?_); rintro e Wq ⟨rfl, rfl⟩)
              go_wp2_with fail
              refine hK.out _ _ ?_ (fun hHeld => ?_)
              · exact hHeld
              clear hK K
              (try simp only [Act.put, List.setIfInBounds_toArray, List.set_cons_zero, List.set_cons_succ])
              refine wpAnyH_done (by kernel_rfl) ?_ _
              simp only [lastPost]
              clear hHeld
              go_simp
              have qd : Grow wr wr.drew := (by repeat (first | exact Grow.refl _ | assumption | refine Grow.alloc ?_ _ | refine Grow.drew ?_ | refine Grow.drewN ?_ _ | refine Grow.trans ?_ (by assumption) | refine Grow.below ?_ (by assumption) (by first | exact Nat.le_refl _ | omega)))
              replace k0 := qd.cell k0; replace k1 := qd.cell k1; replace m0 := qd.cell m0; replace m1 := qd.cell m1; replace c0 := qd.cell c0; replace c1' := qd.cell c1'; replace c2' := qd.cell c2'
              replace K := K.grow F qd
              replace IV := IV.grow qd
              clear qd
              generalize wr.drew = wq at *
              go_wp2_with fail
              refine pop_begin (S := (fun W => Grow wq W ∧ W.cell? ⟨w3.heap.size, 0, none⟩ = some (.slice A1 v.length c1) ∧ W.cell? ⟨w.heap.size, 1, none⟩ = some (.slice (some ⟨b, off, none⟩) s.a.length d) ∧ W.cell? ⟨b, off + k * 3 + 2, none⟩ = some (.int .i64 s.a[k].b))) (by kernel_rfl) (by kernel_rfl) (by kernel_rfl) rfl ?_ ?_
              · exact ⟨(by repeat (first | exact Grow.refl _ | assumption | refine Grow.alloc ?_ _ | refine Grow.drew ?_ | refine Grow.drewN ?_ _ | refine Grow.trans ?_ (by assumption) | refine Grow.below ?_ (by assumption) (by first | exact Nat.le_refl _ | omega))), k0, m1, c2'⟩
              intro l last hl hlast hHeld
              simp only [List.dropLast] at hl
              simp only [List.getLast?, List.getLast, Option.some.injEq] at hlast
              subst hl
              subst hlast
              refine pop_take 0 (v := ?_) rfl (by kernel_rfl) (by kernel_rfl) (by kernel_rfl) (fun _ _ _ h => h) (by rfl) (by assumption) ?_ ?_
              rotate_left 1
              · (intro W hSw; (try dsimp only at hSw); go_simp; (try with_reducible rfl))
              (try simp only [Act.put, List.setIfInBounds_toArray, List.set_cons_zero, List.set_cons_succ])
              refine pop_take 1 (v := ?_) rfl (by kernel_rfl) (by kernel_rfl) (by kernel_rfl) (fun _ _ _ h => h) (by rfl) (by assumption) ?_ ?_
              rotate_left 1
              · (intro W hSw; (try dsimp only at hSw); go_simp; (try with_reducible rfl))
              (try simp only [Act.put, List.setIfInBounds_toArray, List.set_cons_zero, List.set_cons_succ])
              refine pop_take 2 (v := ?_) rfl (by kernel_rfl) (by kernel_rfl) (by kernel_rfl) (fun _ _ _ h => h) (by rfl) (by assumption) ?_ ?_
              rotate_left 1
              · (intro W hSw; (try dsimp only at hSw); go_simp; (try with_reducible rfl))
              (try simp only [Act.put, List.setIfInBounds_toArray, List.set_cons_zero, List.set_cons_succ])
              refine pop_take 3 (v := ?_) rfl (by kernel_rfl) (by kernel_rfl) (by kernel_rfl) (fun _ _ _ h => h) (by rfl) (by assumption) ?_ ?_
              rotate_left 1
              · (intro W hSw; (try dsimp only at hSw); go_simp; (try with_reducible rfl))
              (try simp only [Act.put, List.setIfInBounds_toArray, List.set_cons_zero, List.set_cons_succ])
              refine pop_take 4 (v := ?_) rfl (by kernel_rfl) (by kernel_rfl) (by kernel_rfl) (fun _ _ _ h => h) (by rfl) (by assumption) ?_ ?_
              rotate_left 1
              · (intro W hSw; (try dsimp only at hSw); go_simp; (try with_reducible rfl))
              (try simp only [Act.put, List.setIfInBounds_toArray, List.set_cons_zero, List.set_cons_succ])
              refine pop_take 5 (v := ?_) rfl (by kernel_rfl) (by kernel_rfl) (by kernel_rfl) (fun _ _ _ h => h) (by rfl) (by assumption) ?_ ?_
              rotate_left 1
              · (intro W hSw; (try dsimp only at hSw); go_simp; (try with_reducible rfl))
              (try simp only [Act.put, List.setIfInBounds_toArray, List.set_cons_zero, List.set_cons_succ])
              refine pop_take 6 (v := ?_) rfl (by kernel_rfl) (by kernel_rfl) (by kernel_rfl) (fun _ _ _ h => h) (by rfl) (by assumption) ?_ ?_
              rotate_left 1
              · (intro W hSw; (try dsimp only at hSw); go_simp; (try with_reducible rfl))
              (try simp only [Act.put, List.setIfInBounds_toArray, List.set_cons_zero, List.set_cons_succ])
              refine pop_take 7 (v := ?_) rfl (by kernel_rfl) (by kernel_rfl) (by kernel_rfl) (fun _ _ _ h => h) (by rfl) (by assumption) ?_ ?_
              rotate_left 1
              · (intro W hSw; (try dsimp only at hSw); go_simp; (try with_reducible rfl))
              (try simp only [Act.put, List.setIfInBounds_toArray, List.set_cons_zero, List.set_cons_succ])
              refine pop_one 8 (by kernel_rfl) rfl (fun K hK => ?_)
              go_simp
              (go_at_call 80; (with_reducible refine (CY.out _ (IV.grow hHeld.1)).mono ?_); rintro e Wq ⟨rfl, rfl⟩)
              go_wp2_with fail
              refine hK.out _ _ ?_ (fun hHeld => ?_)
              · exact hHeld
              clear hK K
              (try simp only [Act.put, List.setIfInBounds_toArray, List.set_cons_zero, List.set_cons_succ])
              refine wpAnyH_done (by kernel_rfl) ?_ _
              simp only [lastPost]
              clear hHeld
              go_simp
              have qd : Grow wq wq.drew := (by repeat (first | exact Grow.refl _ | assumption | refine Grow.alloc ?_ _ | refine Grow.drew ?_ | refine Grow.drewN ?_ _ | refine Grow.trans ?_ (by assumption) | refine Grow.below ?_ (by assumption) (by first | exact Nat.le_refl _ | omega)))
              replace k0 := qd.cell k0; replace k1 := qd.cell k1; replace m0 := qd.cell m0; replace m1 := qd.cell m1; replace c0 := qd.cell c0; replace c1' := qd.cell c1'; replace c2' := qd.cell c2'
              replace K := K.grow F qd
              replace IV := IV.grow qd
              clear qd
              generalize wq.drew = ws at *
              clear CX CY IV
              obtain ⟨kd, hkd⟩ : ∃ kd, kd = s.a[k].k := ⟨_, rfl⟩
              rw [← hkd] at c0
              clear hkd
              by_cases hx0 : x = 0
              · have b0 : (x == 0) = true := by simp [hx0]
                clear hx0
                go_wp2_with fail
                go_roundw
                case rel => exact ⟨k + 1, n, h, by omega, by go_num, rfl, hn7, HH, K.more (by omega)⟩
                case measure => simp [intOf]; omega
              · have b0 : (x == 0) = false := by simp [hx0]
                obtain ⟨kx, rfl⟩ : ∃ kx : Nat, x = (kx : Int) + 1 := ⟨(x - 1).toNat, by omega⟩
                have hkx : kx < 8 := by omega
                clear hx0
                by_cases hxy : (kx : Int) + 1 = y ∧ kd = 2
                · obtain ⟨e1, e2⟩ := hxy
                  have b1 : ((kx : Int) + 1 == y) = true := by simp [e1]
                  have b2 : (kd == 2) = true := by simp [e2]
                  clear e1 e2
                  go_wp2_with fail
                  go_roundw
                  case rel => exact ⟨k + 1, n, h, by omega, by go_num, rfl, hn7, HH, K.more (by omega)⟩
                  case measure => simp [intOf]; omega
                · by_cases hk9 : kd = 2
                  · have hxy2 : ¬ (kx : Int) + 1 = y := fun e => hxy ⟨e, hk9⟩
                    have b1 : ((kx : Int) + 1 == y) = false := by simp [hxy2]
                    have b2 : (kd == 2) = true := by simp [hk9]
                    clear hxy hxy2 hk9
                    go_wp2_with fail
                    refine (pick_c g (q + 16 + k) 2 _ K.rd (by omega) (by omega) (by omega)).mono ?_
                    rintro e wt ⟨⟨p, hp, rfl⟩, hr9, b9⟩
                    replace K := K.pick F hr9 b9
                    clear hr9 b9 k0 k1 m0 m1 c0 c1' c2'
                    by_cases hp0 : p = 0
                    · have b3 : ((p : Int) == 0) = true := by simp [hp0]
                      clear hp0 hp
                      go_wp2_with fail
                      go_loopw [6] (fun nx wr => ∃ (n : Nat), nx = .int .i64 ((n : Int) + 1) ∧ n ≤ 7 ∧ Bu w g (q + 16 + k + 1) w3.heap.size (w.heap.size + 2) loa A (some ⟨b, off, none⟩) c d s A1 (some ⟨gB, 0, none⟩) c1 d1 v h wr) (fun nx _ => 10 - (intOf nx).toNat)
                      case atStart => exact ⟨n, rfl, hn7, K⟩
                      case round =>
                        clear K hn7
                        obtain ⟨n, rfl, hn7, K⟩ := hrel
                        obtain ⟨k0, k1, _, _⟩ := K.y5.facts
                        by_cases hn6 : n < 7
                        · have hnn : (n : Int) + 1 < 8 := by omega
                          have hin : n < h.length := by have := HH.out; omega
                          have q0 : wr.cell? ⟨gB, n, none⟩ = some (.int .i64 h[n]) := own_cellAt K.o.h (show (h.map (Value.int .i64))[n]? = some (.int .i64 h[n]) by simp [hin])
                          have hin2 : (n : Int) < (h.length : Int) := by omega
                          have hin3 : (0 : Int) ≤ (n : Int) := by omega
                          by_cases hh0 : 0 ≤ h[n]
                          · go_wp2_with fail
                            go_roundw
                            case rel => exact ⟨n + 1, by go_num, by omega, K⟩
                            case measure => simp [intOf]; omega
                          · have hh1 : ¬ (0 : Int) ≤ h[n] := hh0
                            go_wp2_with fail
                            refine (l4Known_c A1 (some ⟨gB, 0, none⟩) h.length c1 d1 v ((n : Int) + 1) _ K.o.st.v (Lib.hid VV.out)).mono ?_
                            rintro e wk ⟨⟨bb, rfl⟩, gk⟩
                            replace K := K.grow F gk
                            clear gk k0 k1 q0
                            cases bb with
                            | true =>
                              go_wp2_with fail
                              go_roundw
                              case rel => exact ⟨n + 1, by go_num, by omega, K⟩
                              case measure => simp [intOf]; omega
                            | false =>
                              have hn9 := hn7
                              have hgB := K.bh gB rfl
                              have hin : kx < h.length := by have := HH.out; omega
                              obtain ⟨u0, q0⟩ : ∃ u, wk.cell? ⟨gB, kx, none⟩ = some u := ⟨_, own_cellAt K.o.h (show (h.map (Value.int .i64))[kx]? = some (.int .i64 h[kx]) by simp [hin])⟩
                              have f0 := World.ownsRow.frozenAt K.o.h kx
                              have hin2 : (kx : Int) < (h.length : Int) := by omega
                              have hin3 : (0 : Int) ≤ (kx : Int) := by omega
                              obtain ⟨k0, k1, _, _⟩ := K.y5.facts
                              have K9 := K.heap F kx ((n : Int) + 1) hgB
                              have H9 := Lib.hid (show (h.set kx ((n : Int) + 1)).length = 8 by rw [List.length_set]; exact HH.out)
                              have hinn : n < h.length := by have := HH.out; omega
                              obtain ⟨u1, q1⟩ : ∃ u, wk.cell? ⟨gB, n, none⟩ = some u := ⟨_, own_cellAt K.o.h (show (h.map (Value.int .i64))[n]? = some (.int .i64 h[n]) by simp [hinn])⟩
                              have f1 := World.ownsRow.frozenAt K.o.h n
                              have hinn2 : (n : Int) < (h.length : Int) := by omega
                              have hinn3 : (0 : Int) ≤ (n : Int) := by omega
                              have K10 := K9.heap F n y (by exact hgB)
                              have H10 := Lib.hid (show ((h.set kx ((n : Int) + 1)).set n y).length = 8 by rw [List.length_set]; exact H9.out)
                              by_cases hkn : kx = n
                              · subst hkn
                                go_wp2_with fail
                                go_roundw
                                case rel => exact ⟨k + 1, kx, _, by omega, by go_num, rfl, hn7, H10, K10.more (by omega)⟩
                                case measure => simp [intOf]; omega
                              · have hnk : ¬ n = kx := fun e => hkn e.symm
                                go_wp2_with fail
                                go_roundw
                                case rel => exact ⟨k + 1, n, _, by omega, by go_num, rfl, hn7, H10, K10.more (by omega)⟩
                                case measure => simp [intOf]; omega
                        · have hnn : ¬ (n : Int) + 1 < 8 := by omega
                          clear k0 k1
                          have hn9 := hn7
                          have hgB := K.bh gB rfl
                          have hin : kx < h.length := by have := HH.out; omega
                          obtain ⟨u0, q0⟩ : ∃ u, wr.cell? ⟨gB, kx, none⟩ = some u := ⟨_, own_cellAt K.o.h (show (h.map (Value.int .i64))[kx]? = some (.int .i64 h[kx]) by simp [hin])⟩
                          have f0 := World.ownsRow.frozenAt K.o.h kx
                          have hin2 : (kx : Int) < (h.length : Int) := by omega
                          have hin3 : (0 : Int) ≤ (kx : Int) := by omega
                          obtain ⟨k0, k1, _, _⟩ := K.y5.facts
                          have K9 := K.heap F kx ((n : Int) + 1) hgB
                          have H9 := Lib.hid (show (h.set kx ((n : Int) + 1)).length = 8 by rw [List.length_set]; exact HH.out)
                          have hinn : n < h.length := by have := HH.out; omega
                          obtain ⟨u1, q1⟩ : ∃ u, wr.cell? ⟨gB, n, none⟩ = some u := ⟨_, own_cellAt K.o.h (show (h.map (Value.int .i64))[n]? = some (.int .i64 h[n]) by simp [hinn])⟩
                          have f1 := World.ownsRow.frozenAt K.o.h n
                          have hinn2 : (n : Int) < (h.length : Int) := by omega
                          have hinn3 : (0 : Int) ≤ (n : Int) := by omega
                          have K10 := K9.heap F n y (by exact hgB)
                          have H10 := Lib.hid (show ((h.set kx ((n : Int) + 1)).set n y).length = 8 by rw [List.length_set]; exact H9.out)
                          by_cases hkn : kx = n
                          · subst hkn
                            go_wp2_with fail
                            go_roundw
                            case rel => exact ⟨k + 1, kx, _, by omega, by go_num, rfl, hn7, H10, K10.more (by omega)⟩
                            case measure => simp [intOf]; omega
                          · have hnk : ¬ n = kx := fun e => hkn e.symm
                            go_wp2_with fail
                            go_roundw
                            case rel => exact ⟨k + 1, n, _, by omega, by go_num, rfl, hn7, H10, K10.more (by omega)⟩
                            case measure => simp [intOf]; omega
                    · have b3 : ((p : Int) == 0) = false := by simp; omega
                      clear hp0 hp
                      have hgB := K.bh gB rfl
                      have hin : kx < h.length := by have := HH.out; omega
                      obtain ⟨u0, q0⟩ : ∃ u, wt.cell? ⟨gB, kx, none⟩ = some u := ⟨_, own_cellAt K.o.h (show (h.map (Value.int .i64))[kx]? = some (.int .i64 h[kx]) by simp [hin])⟩
                      have f0 := World.ownsRow.frozenAt K.o.h kx
                      have hin2 : (kx : Int) < (h.length : Int) := by omega
                      have hin3 : (0 : Int) ≤ (kx : Int) := by omega
                      obtain ⟨k0, k1, _, _⟩ := K.y5.facts
                      have K9 := K.heap F kx y hgB
                      have H9 := Lib.hid (show (h.set kx y).length = 8 by rw [List.length_set]; exact HH.out)
                      go_wp2_with fail
                      go_roundw
                      case rel => exact ⟨k + 1, n, h.set kx y, by omega, by go_num, rfl, hn7, H9, K9.more (by omega)⟩
                      case measure => simp [intOf]; omega
                  · have b2 : (kd == 2) = false := by simp [hk9]
                    clear hk9 hxy
                    have hgB := K.bh gB rfl
                    have hin : kx < h.length := by have := HH.out; omega
                    obtain ⟨u0, q0⟩ : ∃ u, ws.cell? ⟨gB, kx, none⟩ = some u := ⟨_, own_cellAt K.o.h (show (h.map (Value.int .i64))[kx]? = some (.int .i64 h[kx]) by simp [hin])⟩
                    have f0 := World.ownsRow.frozenAt K.o.h kx
                    have hin2 : (kx : Int) < (h.length : Int) := by omega
                    have hin3 : (0 : Int) ≤ (kx : Int) := by omega
                    obtain ⟨k0, k1, _, _⟩ := K.y5.facts
                    have K9 := K.heap F kx y hgB
                    have H9 := Lib.hid (show (h.set kx y).length = 8 by rw [List.length_set]; exact HH.out)
                    by_cases hxy : (kx : Int) + 1 = y
                    · have b1 : ((kx : Int) + 1 == y) = true := by simp [hxy]
                      clear hxy
                      go_wp2_with fail
                      go_roundw
                      case rel => exact ⟨k + 1, n, h.set kx y, by omega, by go_num, rfl, hn7, H9, K9.more (by omega)⟩
                      case measure => simp [intOf]; omega
                    · have b1 : ((kx : Int) + 1 == y) = false := by simp [hxy]
                      clear hxy
                      go_wp2_with fail
                      go_roundw
                      case rel => exact ⟨k + 1, n, h.set kx y, by omega, by go_num, rfl, hn7, H9, K9.more (by omega)⟩
                      case measure => simp [intOf]; omega
            · have hk2 : ¬ (k : Int) < (s.a.length : Int) := by omega
              obtain ⟨j0, j1, e0, e1⟩ := K.y4.facts
              have hs8 := K.big
              go_wp2_with fail
              refine bodyPost_ret (v := .agg #[.slice A1 v.length c1, .slice (some ⟨gB, 0, none⟩) h.length d1]) (by simp [results, Try.results49, go_sem, j0, j1]) rfl ⟨⟨A1, some ⟨gB, 0, none⟩, c1, d1, v, h, rfl, ?_, HL.out, HH.out⟩, ?_, ?_⟩
              · exact ((K.o.far (by show w.heap.size + 1 < w.heap.size + 2; omega) _).far (by show w.heap.size + 1 < w.heap.size + 2; omega) _).lo (by omega)
              · exact (rd_far (rd_far K.rd (by show g < w.heap.size + 1; omega) _) (by show g < w.heap.size + 1; omega) _).more (by omega)
              · exact by_set1 (by_set1 K.by_ (by show w.heap.size ≤ w.heap.size + 1; omega) _) (by show w.heap.size ≤ w.heap.size + 1; omega) _

end Go.Proofs.Ytlcijjbeikoppaa
