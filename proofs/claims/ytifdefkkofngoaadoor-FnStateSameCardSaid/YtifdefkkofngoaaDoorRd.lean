/- The reader of drawn numbers: it picks numbers within the bounds asked for. Conditions: it has not yet picked more than a million. -/
import Derived.Test.YtifdefkkofngoaaDoorApp
import Derived.Laws.BitsAllLaws
import Derived.Laws.BitsLemmas
namespace Go.Proofs.YtifdefkkofngoaaDoor
open Go.RowKit
set_option linter.unusedVariables false

/-- The bytes of a slice that came in. -/
def Bytes (w : World) (A : Option Addr) (n : Nat) : Prop := 0 < n → ∃ b off, A = some ⟨b, off, none⟩ ∧ ∀ i, i < n → ∃ x : Nat, x ≤ 255 ∧ w.cell? ⟨b, off + i, none⟩ = some (.int .u8 (x : Int))
theorem Bytes.grow {w w' : World} {A : Option Addr} {n : Nat} (h : Bytes w A n) (hg : Grow w w') : Bytes w' A n := fun hn => by
  obtain ⟨b, off, hA, hc⟩ := h hn
  refine ⟨b, off, hA, fun i hi => ?_⟩
  obtain ⟨x, hx, hcx⟩ := hc i hi
  exact ⟨x, hx, hg.cell hcx⟩
/-- The same, in a block below B. -/
def BytesB (w : World) (B : Nat) (A : Option Addr) (n : Nat) : Prop := 0 < n → ∃ b off, A = some ⟨b, off, none⟩ ∧ b < B ∧ ∀ i, i < n → ∃ x : Nat, x ≤ 255 ∧ w.cell? ⟨b, off + i, none⟩ = some (.int .u8 (x : Int))
theorem Bytes.bound {w : World} {A : Option Addr} {n : Nat} (h : Bytes w A n) : BytesB w w.heap.size A n := fun hn => by
  obtain ⟨b, off, hA, hc⟩ := h hn
  obtain ⟨x, _, hcx⟩ := hc 0 hn
  exact ⟨b, off, hA, World.block_lt_of_cell? w _ hcx, hc⟩
theorem BytesB.below {w w' : World} {B B' : Nat} {A : Option Addr} {n : Nat} (h : BytesB w B A n) (hb : Below B' w w') (hB : B ≤ B') : BytesB w' B A n := fun hn => by
  obtain ⟨b, off, hA, hlt, hc⟩ := h hn
  refine ⟨b, off, hA, hlt, fun i hi => ?_⟩
  obtain ⟨x, hx, hcx⟩ := hc i hi
  exact ⟨x, hx, (hb.cell (p := ⟨b, off + i, none⟩) (by show b < B'; omega)).trans hcx⟩
/-- The reader in block g: it has picked at most q numbers. -/
def RD (w : World) (g q : Nat) : Prop := ∃ (A : Option Addr) (n c p : Nat), w.heap[g]? = some (.cells #[.slice A n c, .int .i64 (p : Int)] 107 (0, 0)) ∧ n ≤ 2000 ∧ BytesB w g A n ∧ p ≤ q
theorem RD.below {w w' : World} {g q B : Nat} (h : RD w g q) (hb : Below B w w') (hB : g < B) : RD w' g q := by
  obtain ⟨A, n, c, p, h1, h2, h3, h4⟩ := h
  exact ⟨A, n, c, p, (hb.block g hB).trans h1, h2, h3.below hb (by omega), h4⟩
theorem RD.grow {w w' : World} {g q : Nat} (h : RD w g q) (hg : Grow w w') : RD w' g q := by
  obtain ⟨A, n, c, p, h1, h2, h3, h4⟩ := h
  have hlt : g < w.heap.size := (Array.getElem?_eq_some_iff.1 h1).1
  exact ⟨A, n, c, p, hg.heap h1, h2, h3.below hg (by omega), h4⟩
theorem RD.lt {w : World} {g q : Nat} (h : RD w g q) : g < w.heap.size := by
  obtain ⟨A, n, c, p, h1, _⟩ := h
  exact (Array.getElem?_eq_some_iff.1 h1).1
theorem RD.more {w : World} {g q q' : Nat} (h : RD w g q) (hq : q ≤ q') : RD w g q' := by
  obtain ⟨A, n, c, p, h1, h2, h3, h4⟩ := h
  exact ⟨A, n, c, p, h1, h2, h3, by omega⟩
theorem xor_nat (a b : Nat) (ha : a < 4611686018427387904) (hb : b < 4611686018427387904) : bits .xor .i64 (a : Int) (b : Int) = ((a ^^^ b : Nat) : Int) := by
  have hx : a ^^^ b < 2 ^ 62 := Nat.xor_lt_two_pow (by omega) (by omega)
  have e : ∀ k : Nat, k < 4611686018427387904 → (BitVec.ofInt 64 (k : Int)).toNat = k := fun k hk => by
    rw [BitVec.ofInt_natCast, BitVec.toNat_ofNat]; exact Nat.mod_eq_of_lt (by omega)
  show IntKind.i64.wrap ((BitVec.ofInt 64 (a : Int) ^^^ BitVec.ofInt 64 (b : Int)).toNat : Int) = _
  rw [BitVec.toNat_xor, e a ha, e b hb, IntKind.wrap_i64]
  omega

theorem by_drewN {a w : World} {row : Option Nat} (h : a.grownBy w row) (n : Nat) : a.grownBy (w.drewN n) row := ⟨h.os, h.tape, h.output, h.size, h.block⟩
theorem by_trans {a b c : World} {row : Option Nat} (h : a.grownBy b row) (k : b.grownBy c row) : a.grownBy c row :=
  ⟨k.os.trans h.os, k.tape.trans h.tape, k.output.trans h.output, Nat.le_trans h.size k.size, fun i hi hne => (k.block i (Nat.lt_of_lt_of_le hi h.size) hne).trans (h.block i hi hne)⟩
theorem by_alloc {a w : World} {row : Option Nat} (h : a.grownBy w row) (o : Obj) : a.grownBy (w.alloc o) row := by_trans h (Grow.by_ (Grow.alloc (Grow.refl _) o) row)
theorem by_grow {a b c : World} {row : Option Nat} (h : a.grownBy b row) (k : Grow b c) : a.grownBy c row := by_trans h (k.by_ row)
/-- Behind a step below which all stays, too. -/
theorem by_below {a b c : World} {B : Nat} {row : Option Nat} (h : a.grownBy b row) (k : Below B b c) (hB : a.heap.size ≤ B) : a.grownBy c row :=
  ⟨k.os.trans h.os, k.tape.trans h.tape, k.output.trans h.output, Nat.le_trans h.size k.size, fun i hi hne => (k.block i (by omega)).trans (h.block i hi hne)⟩

set_option maxHeartbeats 1600000 in
theorem pick_c (g q n : Nat) (w : World) (hr : RD w g q) (hq : q ≤ 1000000) (h1 : 1 ≤ n) (h2 : n ≤ 1000000) :
    Calls Tryd.prog 61 #[.pointer (some ⟨g, 0, none⟩), .int .i64 n] w fun e w' => (∃ v : Nat, v < n ∧ e = .returned (.int .i64 v)) ∧ RD w' g (q + 1) ∧ w.grownBy w' (some g) := by
  obtain ⟨A, m, c, p, hh, hm, hb, hp⟩ := hr
  have k0 : w.cell? ⟨g, 0, none⟩ = some (.slice A m c) := by rw [cell_of_row w g 0 _ _ (0, 0) hh]; rfl
  have k1 : w.cell? ⟨g, 1, none⟩ = some (.int .i64 (p : Int)) := by rw [cell_of_row w g 1 _ _ (0, 0) hh]; rfl
  have f1 : w.frozen? ⟨g, 1, none⟩ = false := by simp [World.frozen?, hh]
  have hrd : RD (w.setCell ⟨g, 1, none⟩ (.int .i64 ((p : Int) + 1))) g (q + 1) := by
    refine ⟨A, m, c, p + 1, ?_, hm, fun hm0 => ?_, by omega⟩
    · simp [World.setCell, Array.getElem?_modify, hh]
    · obtain ⟨b, off, hA, hlt, hc⟩ := hb hm0
      refine ⟨b, off, hA, hlt, fun i hi => ?_⟩
      obtain ⟨x, hx, hcx⟩ := hc i hi
      exact ⟨x, hx, (World.cell?_of_block (Below.heap_setCell _ _ _ _ (Nat.ne_of_lt hlt))).trans hcx⟩
  have hgr : w.grownBy (w.setCell ⟨g, 1, none⟩ (.int .i64 ((p : Int) + 1))) (some g) := only_setCell (World.grownBy.refl _ _) _ _
  by_cases hm0 : m = 0
  · subst hm0
    go_enter Tryd.func61, Tryd.ntmps61
    go_wp2
    go_ret
    exact ⟨⟨0, by omega, rfl⟩, hrd, hgr⟩
  · obtain ⟨b, off, rfl, hblt, hc⟩ := hb (by omega)
    have hb0 : ((m : Int) == 0) = false := by simp; omega
    have hpn : (1 : Int) ≤ (n : Int) := by omega
    have hbg : b ≠ g := Nat.ne_of_lt hblt
    have hc' : ∀ i, i < m → ∃ x : Nat, x ≤ 255 ∧ (w.setCell ⟨g, 1, none⟩ (.int .i64 ((p : Int) + 1))).cell? ⟨b, off + i, none⟩ = some (.int .u8 (x : Int)) := fun i hi => by
      obtain ⟨x, hx, hcx⟩ := hc i hi
      exact ⟨x, hx, (World.cell?_of_block (Below.heap_setCell _ _ _ _ hbg)).trans hcx⟩
    clear hc hh hb
    by_cases hpm : p < m
    · obtain ⟨x, hx, hcx⟩ := hc' p hpm
      go_enter Tryd.func61, Tryd.ntmps61
      go_wp2
      go_ret
      exact ⟨⟨x % n, Nat.mod_lt _ (by omega), by rw [Int.natCast_emod]; rfl⟩, hrd, hgr⟩
    · have hpq : p ≤ 1000000 := by omega
      obtain ⟨i0, hi0⟩ : ∃ i : Nat, i = p % m := ⟨_, rfl⟩
      obtain ⟨i1, hi1⟩ : ∃ i : Nat, i = (p * 7 + 3) % m := ⟨_, rfl⟩
      have hm0' : 0 < m := by omega
      have l0 : i0 < m := by rw [hi0]; exact Nat.mod_lt _ hm0'
      have l1 : i1 < m := by rw [hi1]; exact Nat.mod_lt _ hm0'
      obtain ⟨x, hx, hcx⟩ := hc' i0 l0
      obtain ⟨y, hy, hcy⟩ := hc' i1 l1
      clear hc'
      obtain ⟨a2, ha2⟩ : ∃ i : Nat, i = p * 7 := ⟨_, rfl⟩
      obtain ⟨a3, ha3⟩ : ∃ i : Nat, i = a2 + 3 := ⟨_, rfl⟩
      obtain ⟨a1, ha1⟩ : ∃ i : Nat, i = x * 131 := ⟨_, rfl⟩
      obtain ⟨a4, ha4⟩ : ∃ i : Nat, i = y * 1117 := ⟨_, rfl⟩
      obtain ⟨a5, ha5⟩ : ∃ i : Nat, i = a1 + a4 := ⟨_, rfl⟩
      obtain ⟨a6, ha6⟩ : ∃ i : Nat, i = p * 29 := ⟨_, rfl⟩
      obtain ⟨a7, ha7⟩ : ∃ i : Nat, i = a5 + a6 := ⟨_, rfl⟩
      obtain ⟨a8, ha8⟩ : ∃ i : Nat, i = p / m := ⟨_, rfl⟩
      have la8 : a8 ≤ p := by rw [ha8]; exact Nat.div_le_self _ _
      obtain ⟨a9, ha9⟩ : ∃ i : Nat, i = a8 * 53 := ⟨_, rfl⟩
      obtain ⟨a10, ha10⟩ : ∃ i : Nat, i = a7 + a9 := ⟨_, rfl⟩
      have d0 : (p : Int).tmod (m : Int) = (i0 : Int) := by rw [hi0, Int.natCast_emod, Int.tmod_eq_emod_of_nonneg (by omega)]
      have d1 : (a3 : Int).tmod (m : Int) = (i1 : Int) := by rw [hi1, ha3, ha2, Int.natCast_emod, Int.tmod_eq_emod_of_nonneg (by omega)]
      have d8 : (p : Int).tdiv (m : Int) = (a8 : Int) := by rw [ha8, Int.natCast_ediv, Int.tdiv_eq_ediv_of_nonneg (by omega)]
      have e2 : IntKind.i64.wrap ((p : Int) * 7) = (a2 : Int) := by rw [show (p : Int) * 7 = (a2 : Int) from by omega]; exact IntWalk.i64_in _ (by omega)
      have e3 : IntKind.i64.wrap ((a2 : Int) + 3) = (a3 : Int) := by rw [show (a2 : Int) + 3 = (a3 : Int) from by omega]; exact IntWalk.i64_in _ (by omega)
      have e1 : IntKind.i64.wrap ((x : Int) * 131) = (a1 : Int) := by rw [show (x : Int) * 131 = (a1 : Int) from by omega]; exact IntWalk.i64_in _ (by omega)
      have e4 : IntKind.i64.wrap ((y : Int) * 1117) = (a4 : Int) := by rw [show (y : Int) * 1117 = (a4 : Int) from by omega]; exact IntWalk.i64_in _ (by omega)
      have e5 : IntKind.i64.wrap ((a1 : Int) + (a4 : Int)) = (a5 : Int) := by rw [show (a1 : Int) + (a4 : Int) = (a5 : Int) from by omega]; exact IntWalk.i64_in _ (by omega)
      have e6 : IntKind.i64.wrap ((p : Int) * 29) = (a6 : Int) := by rw [show (p : Int) * 29 = (a6 : Int) from by omega]; exact IntWalk.i64_in _ (by omega)
      have e7 : IntKind.i64.wrap ((a5 : Int) + (a6 : Int)) = (a7 : Int) := by rw [show (a5 : Int) + (a6 : Int) = (a7 : Int) from by omega]; exact IntWalk.i64_in _ (by omega)
      have e9 : IntKind.i64.wrap ((a8 : Int) * 53) = (a9 : Int) := by rw [show (a8 : Int) * 53 = (a9 : Int) from by omega]; exact IntWalk.i64_in _ (by omega)
      have e10 : IntKind.i64.wrap ((a7 : Int) + (a9 : Int)) = (a10 : Int) := by rw [show (a7 : Int) + (a9 : Int) = (a10 : Int) from by omega]; exact IntWalk.i64_in _ (by omega)
      have w0 : ∀ k : Nat, k ≤ 1000000000 → IntKind.i64.wrap (k : Int) = (k : Int) := fun k hk => IntWalk.i64_in _ (by omega)
      have wx := w0 x (by omega)
      have wy := w0 y (by omega)
      have wi0 := w0 i0 (by omega)
      have wi1 := w0 i1 (by omega)
      have wa8 := w0 a8 (by omega)
      have z0 : (0 : Int) ≤ (i0 : Int) := by omega
      have z1 : (i0 : Int) < (m : Int) := by omega
      have z2 : (0 : Int) ≤ (i1 : Int) := by omega
      have z3 : (i1 : Int) < (m : Int) := by omega
      have hm1 : (1 : Int) ≤ (m : Int) := by omega
      have ha10b : a10 ≤ 1000000000 := by omega
      clear w0 ha1 ha2 ha3 ha4 ha5 ha6 ha7 ha8 ha9 ha10 hi0 hi1
      go_enter Tryd.func61, Tryd.ntmps61
      go_wp2
      go_quiet (fail)
      clear d0 d1 d8 e1 e2 e3 e4 e5 e6 e7 e9 e10 wx wy wi0 wi1 wa8 z0 z1 z2 z3 hcx hcy
      obtain ⟨b2, hb2⟩ : ∃ i : Nat, i = a10 ^^^ (a10 / 64) := ⟨_, rfl⟩
      have x1 : bits .xor .i64 (a10 : Int) ((a10 : Int) / 64) = (b2 : Int) := by
        rw [hb2, show ((a10 : Int) / 64) = ((a10 / 64 : Nat) : Int) from by omega]; exact xor_nat _ _ (by omega) (by omega)
      clear hb2
      go_wp2
      go_ret
      exact ⟨⟨b2 % n, Nat.mod_lt _ (by omega), by rw [Int.natCast_emod]; rfl⟩, hrd.grow (by repeat (first | exact Grow.refl _ | assumption | refine Grow.alloc ?_ _ | refine Grow.drew ?_ | refine Grow.drewN ?_ _ | refine Grow.trans ?_ (by assumption) | refine Grow.below ?_ (by assumption) (by first | exact Nat.le_refl _ | omega))), by_drewN hgr _⟩

/-- A number out of a list: one of its elements. -/
theorem num_c (g q c lo : Nat) (A : Option Addr) (l : List Int) (w : World) (hr : RD w g q) (hq : q ≤ 1000000) (h1 : 0 < l.length) (h2 : l.length ≤ 100) (ho : OInts w lo (.slice A l.length c) l) (hlo : g < lo) :
    Calls Tryd.prog 96 #[.pointer (some ⟨g, 0, none⟩), .slice A l.length c] w fun e w' => (∃ v, v ∈ l ∧ e = .returned (.int .i64 v)) ∧ RD w' g (q + 1) ∧ w.grownBy w' (some g) := by
  go_enter Tryd.func96, Tryd.ntmps96
  go_wp2_with fail
  refine (pick_c g q l.length w hr hq (by omega) (by omega)).mono ?_
  rintro e w1 ⟨⟨v, hv, rfl⟩, hr1, hg1⟩
  have ho1 := own_kept ho hg1 (fun k hk e => by have := own_blk ho k hk; injection e with e; omega)
  obtain ⟨b, off, rfl, c0⟩ := (OInts.ints rfl ho1).at_ hv
  go_wp2_with fail
  go_ret
  exact ⟨⟨l[v], List.getElem_mem hv, rfl⟩, hr1, hg1⟩

end Go.Proofs.YtifdefkkofngoaaDoor
