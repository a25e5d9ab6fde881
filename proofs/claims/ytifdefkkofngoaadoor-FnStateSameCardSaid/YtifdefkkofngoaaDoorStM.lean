/- Words for the laws' own marks of states: what is marked leaves all else as it was. No conditions. -/
import Derived.Test.YtifdefkkofngoaaDoorSt3
namespace Go.Proofs.YtifdefkkofngoaaDoor
open Go.RowKit
set_option linter.unusedVariables false

/-- The block of a slice lies between two bounds. -/
def Bd (lo hi : Nat) (v : Value) : Prop := ∀ k, v.ownBlock = some k → lo ≤ k ∧ k < hi
theorem Bd.apart {lo hi lo' hi' : Nat} {v v' : Value} (h : Bd lo hi v) (h' : Bd lo' hi' v') (hd : hi ≤ lo' ∨ hi' ≤ lo) : ∀ j, v.ownBlock = some j → v'.ownBlock ≠ some j := fun j k e => by
  have := h j k; have := h' j e; omega
theorem Bd.off {lo hi g : Nat} {v : Value} (h : Bd lo hi v) (hd : g < lo ∨ hi ≤ g) : v.ownBlock ≠ some g := fun e => by
  have := h g e; omega
theorem own_bd {w : World} {lo E sz n : Nat} {v : Value} {xs : List Value} (h : w.ownsRow lo E sz v n xs) : Bd lo w.heap.size v := own_blk h
theorem OSt.bdv {w : World} {lo : Nat} {A B : Option Addr} {c d : Nat} {s : Pl.St} (k : OSt w lo A B c d s) : Bd lo w.heap.size (.slice A s.v.length c) := own_blk k.v
theorem OSt.bdh {w : World} {lo : Nat} {A B : Option Addr} {c d : Nat} {s : Pl.St} (k : OSt w lo A B c d s) : Bd lo w.heap.size (.slice B s.h.length d) := own_blk k.h
/-- w' is w but for new blocks and for writes into the blocks of v1 and v2. -/
def Marked (w w' : World) (v1 v2 : Value) : Prop := ∃ wa wb, Grow w wa ∧ wa.grownBy wb v1.ownBlock ∧ wb.grownBy w' v2.ownBlock
theorem Marked.one {w w' : World} {v : Value} (h : w.grownBy w' v.ownBlock) : Marked w w' v v := ⟨w, w', Grow.refl _, h, World.grownBy.refl _ _⟩
theorem Marked.size {w w' : World} {v1 v2 : Value} (h : Marked w w' v1 v2) : w.heap.size ≤ w'.heap.size := by
  obtain ⟨wa, wb, g, r1, r2⟩ := h
  have := g.le; have := r1.size; have := r2.size; omega
theorem Marked.grow {w0 w w' : World} {v1 v2 : Value} {lo1 hi1 lo2 hi2 : Nat} (h : Marked w w' v1 v2) (k : Grow w0 w) (b1 : Bd lo1 hi1 v1) (b2 : Bd lo2 hi2 v2) (e1 : w0.heap.size ≤ lo1) (e2 : w0.heap.size ≤ lo2) : Grow w0 w' := by
  obtain ⟨wa, wb, g, r1, r2⟩ := h
  exact ((k.trans g).grown r1 (fun j hj => by have := b1 j hj; omega)).grown r2 (fun j hj => by have := b2 j hj; omega)
theorem Marked.own {w w' : World} {v1 v2 v : Value} {lo E sz n lo1 hi1 lo2 hi2 lo3 hi3 : Nat} {xs : List Value} (h : Marked w w' v1 v2) (o : w.ownsRow lo E sz v n xs) (b : Bd lo3 hi3 v) (b1 : Bd lo1 hi1 v1) (b2 : Bd lo2 hi2 v2) (e1 : hi3 ≤ lo1 ∨ hi1 ≤ lo3) (e2 : hi3 ≤ lo2 ∨ hi2 ≤ lo3) : w'.ownsRow lo E sz v n xs := by
  obtain ⟨wa, wb, g, r1, r2⟩ := h
  exact own_kept (own_kept (own_grow o g) r1 (Bd.apart b b1 e1)) r2 (Bd.apart b b2 e2)
theorem Marked.ost {w w' : World} {v1 v2 : Value} {lo c d lo1 hi1 lo2 hi2 lo3 hi3 : Nat} {A B : Option Addr} {s : Pl.St} (h : Marked w w' v1 v2) (o : OSt w lo A B c d s) (b : Bd lo3 hi3 (.slice A s.v.length c)) (b' : Bd lo3 hi3 (.slice B s.h.length d)) (b1 : Bd lo1 hi1 v1) (b2 : Bd lo2 hi2 v2) (e1 : hi3 ≤ lo1 ∨ hi1 ≤ lo3) (e2 : hi3 ≤ lo2 ∨ hi2 ≤ lo3) : OSt w' lo A B c d s :=
  ⟨h.own o.v b b1 b2 e1 e2, h.own o.h b' b1 b2 e1 e2, o.ap⟩
/-- A row of ints of the call's own. -/
structure OIn (w : World) (lo : Nat) (A : Option Addr) (c : Nat) (l : List Int) : Prop where
  o : OInts w lo (.slice A l.length c) l
theorem OIn.grow {w w' : World} {lo c : Nat} {A : Option Addr} {l : List Int} (k : OIn w lo A c l) (g : Grow w w') : OIn w' lo A c l := ⟨own_grow k.o g⟩
theorem OIn.ints {w : World} {lo c : Nat} {A : Option Addr} {l : List Int} (k : OIn w lo A c l) : Ints w A l := OInts.ints rfl k.o
theorem OIn.bd {w : World} {lo c : Nat} {A : Option Addr} {l : List Int} (k : OIn w lo A c l) : Bd lo w.heap.size (.slice A l.length c) := own_blk k.o
theorem Marked.oin {w w' : World} {v1 v2 : Value} {lo c lo1 hi1 lo2 hi2 lo3 hi3 : Nat} {A : Option Addr} {l : List Int} (h : Marked w w' v1 v2) (o : OIn w lo A c l) (b : Bd lo3 hi3 (.slice A l.length c)) (b1 : Bd lo1 hi1 v1) (b2 : Bd lo2 hi2 v2) (e1 : hi3 ≤ lo1 ∨ hi1 ≤ lo3) (e2 : hi3 ≤ lo2 ∨ hi2 ≤ lo3) : OIn w' lo A c l :=
  ⟨h.own o.o b b1 b2 e1 e2⟩
theorem Marked.box {w w' : World} {v1 v2 : Value} {g E lo1 hi1 lo2 hi2 : Nat} {x y : Value} (h : Marked w w' v1 v2) (o : Box2 w g E x y) (b1 : Bd lo1 hi1 v1) (b2 : Bd lo2 hi2 v2) (e1 : g < lo1 ∨ hi1 ≤ g) (e2 : g < lo2 ∨ hi2 ≤ g) : Box2 w' g E x y := by
  obtain ⟨wa, wb, g, r1, r2⟩ := h
  exact ((o.grow g).kept r1 (Bd.off b1 e1)).kept r2 (Bd.off b2 e2)

theorem markState_m (A B : Option Addr) (c d lo : Nat) (s : Pl.St) (k : Nat) (w : World) (hS : OSt w lo A B c d s) (h1 : s.v.length ≤ 4194304) (h2 : s.h.length ≤ 4194304) (hk : k ≤ 4611686018) :
    Calls Tryd.prog 16 #[sval A B c d s, .int .i64 k] w fun e w' => e = .returned (.int .i64 ((k + s.v.length + s.h.length : Nat) : Int)) ∧ (Ints w' A (markI k s.v.length) ∧ Ints w' B (markI (k + s.v.length) s.h.length)) ∧ Marked w w' (.slice A s.v.length c) (.slice B s.h.length d) :=
  (markState_c A B c d lo s k w hS h1 h2 hk).mono fun e w' ⟨a, b, m⟩ => ⟨a, ⟨b.st.v, b.st.h⟩, m⟩

end Go.Proofs.YtifdefkkofngoaaDoor
