/- How a law's arguments read: slices of atoms; an atom, an assertion by value. Plain lemmas on the form's readings. No conditions. -/
import Derived.Test.YtinnopkeoohgeaaDoorRowAid
import Derived.Test.YtinnopkeoohgeaaDoorAs
namespace Go.Proofs.YtinnopkeoohgeaaDoor
open Go.ChangeShapes Go.WideShapes Go.ChangeAt Go.RowKit Go.Joins Go.Deep
open Go.ChangeMaps (open_string shut_string)
set_option linter.unusedVariables false

section
variable {H : Type} {enc : TypeId × Value → H} {w : World} {base : Nat} {spare : Nat → Bool} {held : Bool}

theorem open_atomsL {A : Option Addr} {len cap fuel : Nat} {x : DataW H × List MemPlace} (h : DataW.trod enc Tryd.prog w base spare held fuel 52 [.slice A len cap] = some x) :
    ∃ l : List Pl.Atm, l.length = len ∧ len ≤ 9223372036854775807 ∧ Atoms w A l := by
  rcases open_rows Tryd.underlying52 Tryd.underlying133 (by kernel_rfl) (by kernel_rfl) h with ⟨h1, h2⟩ | ⟨a, rfl, hm, hi⟩
  · subst h1 h2
    exact ⟨[], rfl, by omega, Atoms.nil _ _⟩
  · have hall : ∀ i, i < len → ∃ f : Pl.Atm, w.cell? (a.add (i * 3 + 0)) = some (.int .i64 f.k) ∧ w.cell? (a.add (i * 3 + 1)) = some (.int .i64 f.a) ∧ w.cell? (a.add (i * 3 + 2)) = some (.int .i64 f.b) := by
      intro i hil
      obtain ⟨n, hf⟩ := hi i hil
      obtain ⟨v0, y0, c0, t0⟩ := hf 0 _ rfl
      obtain ⟨v1, y1, c1, t1⟩ := hf 1 _ rfl
      obtain ⟨v2, y2, c2, t2⟩ := hf 2 _ rfl
      obtain ⟨b0, e0, _⟩ := DataW.trod_int Tryd.underlying3 t0
      obtain ⟨n1, e1, _⟩ := DataW.trod_int Tryd.underlying3 t1
      obtain ⟨n2, e2, _⟩ := DataW.trod_int Tryd.underlying3 t2
      injection e0 with e0 _
      injection e1 with e1 _
      injection e2 with e2 _
      subst e0 e1 e2
      exact ⟨⟨b0, n1, n2⟩, c0, c1, c2⟩
    obtain ⟨l, hl, hp⟩ := list_of len hall
    refine ⟨l, hl, hm, fun hne => ?_⟩
    obtain ⟨b, off, spot⟩ := a
    have hpos : 0 < l.length := List.length_pos_iff.2 hne
    have hspot : spot = none := by simpa [Addr.add] using World.cell?_spot (hp 0 hpos).1
    subst hspot
    refine ⟨b, off, rfl, fun i hi => ?_⟩
    obtain ⟨c0, c1, c2⟩ := hp i hi
    have hadd : ∀ k, (⟨b, off, none⟩ : Addr).add k = ⟨b, off + k, none⟩ := fun k => by unfold Addr.add; split <;> simp_all
    rw [hadd] at c0 c1 c2
    exact ⟨by simpa using c0, by rw [Nat.add_assoc]; exact c1, by rw [Nat.add_assoc]; exact c2⟩

/-- A slice of Facts in a struct's field. -/
theorem open_factsC {v : Value} {fuel : Nat} {x : DataW H × List MemPlace} (h : DataW.trod enc Tryd.prog w base spare held fuel 51 [v] = some x) :
    ∃ (A : Option Addr) (c : Nat) (l : List Pl.Fct), v = .slice A l.length c ∧ l.length ≤ 9223372036854775807 ∧ Facts w A l := by
  have hv : ∃ A n c, v = .slice A n c := by
    rcases open_slice Tryd.underlying51 h with ⟨hcs, _⟩ | ⟨a, l, c, m, n, D, Pl, hcs, _⟩
    · injection hcs with hcs _; exact ⟨_, _, _, hcs⟩
    · injection hcs with hcs _; exact ⟨_, _, _, hcs⟩
  obtain ⟨A, n, c, rfl⟩ := hv
  obtain ⟨l, rfl, hn, hl⟩ := open_factsL h
  exact ⟨A, c, l, rfl, hn, hl⟩

/-- A slice of Atoms in a struct's field. -/
theorem open_atomsC {v : Value} {fuel : Nat} {x : DataW H × List MemPlace} (h : DataW.trod enc Tryd.prog w base spare held fuel 52 [v] = some x) :
    ∃ (A : Option Addr) (c : Nat) (l : List Pl.Atm), v = .slice A l.length c ∧ l.length ≤ 9223372036854775807 ∧ Atoms w A l := by
  have hv : ∃ A n c, v = .slice A n c := by
    rcases open_slice Tryd.underlying52 h with ⟨hcs, _⟩ | ⟨a, l, c, m, n, D, Pl, hcs, _⟩
    · injection hcs with hcs _; exact ⟨_, _, _, hcs⟩
    · injection hcs with hcs _; exact ⟨_, _, _, hcs⟩
  obtain ⟨A, n, c, rfl⟩ := hv
  obtain ⟨l, rfl, hn, hl⟩ := open_atomsL h
  exact ⟨A, c, l, rfl, hn, hl⟩

set_option maxRecDepth 100000 in
/-- An atom by value that came in. -/
theorem open_atomV {r : Reach} {b0 : Nat} {v : Value} {d : DataW H} {p : List MemPlace} (hv : Value.okWide Tryd.prog w r b0 133 v) (h : DataW.Trod enc Tryd.prog w base spare held 133 v d p) :
    ∃ f : Pl.Atm, v = xval f ∧ True := by
  obtain ⟨v0, v1, v2, y0, y1, y2, n, rfl, _, _, t0, t1, t2⟩ := open_agg3 Tryd.underlying133 (by kernel_rfl) (by kernel_rfl) hv h
  obtain ⟨b0, e0, _⟩ := DataW.trod_int Tryd.underlying3 t0
  obtain ⟨n1, e1, _⟩ := DataW.trod_int Tryd.underlying3 t1
  obtain ⟨n2, e2, _⟩ := DataW.trod_int Tryd.underlying3 t2
  injection e0 with e0 _
  injection e1 with e1 _
  injection e2 with e2 _
  subst e0 e1 e2
  exact ⟨⟨b0, n1, n2⟩, rfl, trivial⟩

set_option maxRecDepth 100000 in
/-- An assertion by value that came in. -/
theorem open_asnV {r : Reach} {b0 : Nat} {v : Value} {d : DataW H} {p : List MemPlace} (hv : Value.okWide Tryd.prog w r b0 54 v) (h : DataW.Trod enc Tryd.prog w base spare held 54 v d p) :
    ∃ (A B : Option Addr) (c e : Nat) (l : List Pl.Fct) (m : List Pl.Atm), v = .agg #[.slice A l.length c, .slice B m.length e] ∧ Facts w A l ∧ Atoms w B m ∧ l.length ≤ 9223372036854775807 ∧ m.length ≤ 9223372036854775807 := by
  obtain ⟨v0, v1, y0, y1, n, rfl, _, _, t0, t1⟩ := open_agg2 Tryd.underlying54 (by kernel_rfl) (by kernel_rfl) hv h
  obtain ⟨A, c, l, rfl, hl, il⟩ := open_factsC t0
  obtain ⟨B, e, m, rfl, hm, im⟩ := open_atomsC t1
  exact ⟨A, B, c, e, l, m, rfl, il, im, hl, hm⟩

end

end Go.Proofs.YtinnopkeoohgeaaDoor
