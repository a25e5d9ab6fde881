/- A region that draws numbers from the reader, out of lists that it makes: what stands behind each of its steps, whatever the order. No conditions but the bounds on what the reader has picked. -/
import Derived.Test.YtifdefkkofngoaaDoorDrawF
import Derived.Test.YtifdefkkofngoaaDoorPopHeld
namespace Go.Proofs.YtifdefkkofngoaaDoor
open Go.RowKit
set_option linter.unusedVariables false

/-- Since world w0 the reader in block g alone was written; the lists at L were made. -/
structure Dv (w0 : World) (g q : Nat) (L : List (Nat × List Int)) (W : World) : Prop where
  rd : RD W g q
  by_ : w0.grownBy W (some g)
  lits : ∀ p ∈ L, g < p.1 ∧ OInts W p.1 (.slice (some ⟨p.1, 0, none⟩) p.2.length p.2.length) p.2
theorem Dv.start {w0 : World} {g q : Nat} (h : RD w0 g q) : Dv w0 g q [] w0 := ⟨h, World.grownBy.refl _ _, fun p hp => by cases hp⟩
theorem Dv.drew {w0 W : World} {g q : Nat} {L : List (Nat × List Int)} (h : Dv w0 g q L W) : Dv w0 g q L W.drew := ⟨h.rd.grow (by repeat (first | exact Grow.refl _ | assumption | refine Grow.alloc ?_ _ | refine Grow.drew ?_ | refine Grow.drewN ?_ _ | refine Grow.trans ?_ (by assumption) | refine Grow.below ?_ (by assumption) (by first | exact Nat.le_refl _ | omega))), by_grow h.by_ (by repeat (first | exact Grow.refl _ | assumption | refine Grow.alloc ?_ _ | refine Grow.drew ?_ | refine Grow.drewN ?_ _ | refine Grow.trans ?_ (by assumption) | refine Grow.below ?_ (by assumption) (by first | exact Nat.le_refl _ | omega))), fun p hp => ⟨(h.lits p hp).1, own_grow (h.lits p hp).2 (by repeat (first | exact Grow.refl _ | assumption | refine Grow.alloc ?_ _ | refine Grow.drew ?_ | refine Grow.drewN ?_ _ | refine Grow.trans ?_ (by assumption) | refine Grow.below ?_ (by assumption) (by first | exact Nat.le_refl _ | omega)))⟩⟩
theorem Dv.step {w0 W W' : World} {g q q' : Nat} {L : List (Nat × List Int)} (h : Dv w0 g q L W) (hr : RD W' g q') (b : W.grownBy W' (some g)) : Dv w0 g q' L W' :=
  ⟨hr, by_trans h.by_ b, fun p hp => ⟨(h.lits p hp).1, own_kept (h.lits p hp).2 b (fun k hk e => by have := (h.lits p hp).1; have := (own_blk (h.lits p hp).2 k hk).1; injection e with e; omega)⟩⟩
theorem Dv.grow {w0 W W' : World} {g q : Nat} {L : List (Nat × List Int)} (h : Dv w0 g q L W) (k : Grow W W') : Dv w0 g q L W' := h.step (h.rd.grow k) (k.by_ _)
theorem Dv.cell {w0 W : World} {g q : Nat} {L : List (Nat × List Int)} (h : Dv w0 g q L W) {a : Addr} {v : Value} (hc : w0.cell? a = some v) (hne : a.block ≠ g) : W.cell? a = some v :=
  h.by_.cell hc (fun e => hne (by injection e))
/-- A list made anew. -/
theorem Dv.lit {w0 W : World} {g q : Nat} {L : List (Nat × List Int)} (h : Dv w0 g q L W) (l : List Int) (cs : Array Value) (hcs : cs = (l.map (Value.int .i64)).toArray) (hl : l.length ≤ 100)
    {K : Act → World → Prop} {a : Act} (k : ∀ W', Dv w0 g q ((W.heap.size, l) :: L) W' → K a W') : K a (W.alloc (.cells cs 3)) := by
  have q : Grow W (W.alloc (.cells cs 3)) := (by repeat (first | exact Grow.refl _ | assumption | refine Grow.alloc ?_ _ | refine Grow.drew ?_ | refine Grow.drewN ?_ _ | refine Grow.trans ?_ (by assumption) | refine Grow.below ?_ (by assumption) (by first | exact Nat.le_refl _ | omega)))
  have h' := h.grow q
  refine k _ ⟨h'.rd, h'.by_, fun p hp => ?_⟩
  rcases List.mem_cons.1 hp with rfl | hp
  · exact ⟨h.rd.lt, lit_own W l cs hcs hl⟩
  · exact h'.lits p hp
theorem Dv.pick {w0 W : World} {g q : Nat} {L : List (Nat × List Int)} (h : Dv w0 g q L W) (n : Nat) (m : Int) (hm : m = (n : Int)) (hq : q ≤ 1000000) (h1 : 1 ≤ n) (h2 : n ≤ 1000000) :
    Calls Tryd.prog 61 #[.pointer (some ⟨g, 0, none⟩), .int .i64 m] W fun e W' => (∃ v : Nat, v < n ∧ e = .returned (.int .i64 (v : Int))) ∧ Dv w0 g (q + 1) L W' := by
  subst hm
  exact (pick_c g q n W h.rd hq h1 h2).mono fun e W' ⟨r, hr, b⟩ => ⟨r, h.step hr b⟩
theorem Dv.num {w0 W : World} {g q : Nat} {L : List (Nat × List Int)} (h : Dv w0 g q L W) (A n c : Nat) (l : List Int) (hm : (A, l) ∈ L) (hn : n = l.length) (hc : c = l.length) (hq : q ≤ 1000000) (h1 : 0 < l.length) (h2 : l.length ≤ 100) :
    Calls Tryd.prog 96 #[.pointer (some ⟨g, 0, none⟩), .slice (some ⟨A, 0, none⟩) n c] W fun e W' => (∃ v, v ∈ l ∧ e = .returned (.int .i64 v)) ∧ Dv w0 g (q + 1) L W' := by
  subst hn hc
  exact (num_c g q l.length A (some ⟨A, 0, none⟩) l W h.rd hq h1 h2 (h.lits _ hm).2 (h.lits _ hm).1).mono fun e W' ⟨r, hr, b⟩ => ⟨r, h.step hr b⟩

theorem arm_in {c : Prop} [Decidable c] {t e : Prop} (h : if c then t else e) : if c then t else e := h

end Go.Proofs.YtifdefkkofngoaaDoor
