/- The step of a tied row: the program's table of names, which stands on the row's list, holds the names; a world for the witness. No conditions. -/
import Derived.Test.YtifdefkkofngoaaDoorCards
import Derived.Test.YtifdefkkofngoaaDoorTie
import Derived.Test.YtifdefkkofngoaaDoorNm
import Derived.Test.YtifdefkkofngoaaDoorRowAid
import Derived.Deep.DeepHandedRow
import Derived.Lib.LaidTab
import Derived.OpenVars
import Derived.Test.YtifdefkkofngoaaDoorLx
import Derived.Lay
namespace Go.Proofs.YtifdefkkofngoaaDoor
open Go.ChangeShapes Go.WideShapes Go.ChangeAt Go.RowKit

theorem gNames : Tryd.prog.globalNamed "loop.example/separation/impl.termNames" = some 0 := by kernel_rfl
theorem gNamesType : (Tryd.prog.globals[0]?).map (·.type) = some 94 := by kernel_rfl
theorem cellsNames : Tryd.prog.cellsOf 94 = 9 := by kernel_rfl
theorem cellsString : Tryd.prog.cellsOf 9 = 1 := by kernel_rfl

/-- Cells that read as a row of texts hold these texts. -/
theorem texts_of {H : Type} {enc : TypeId × Value → H} {w : World} {base : Nat} {sp : Nat → Bool} {held : Bool} {fuel : Nat} {cs : List Value} {zs : List (List UInt8)} {p : List MemPlace}
    (h : DataW.trod enc Tryd.prog w base sp held fuel 94 cs = some (.agg (zs.map fun z => .lit (.string z)), p)) : ∀ (i : Nat) (z : List UInt8), i < 9 → zs[i]? = some z → cs[i]? = some (.string (Pl.str z)) := by
  cases fuel with
  | zero => simp [DataW.trod] at h
  | succ fuel =>
    have ht := Tryd.underlying94
    simp only [DataW.trod, ht, cellsString, cellsNames, Nat.mul_one] at h
    split at h
    · obtain ⟨xs, hm, hx⟩ := Option.map_eq_some_iff.1 h
      have hxs : xs.map (·.1) = zs.map fun z => (DataW.lit (.string z) : DataW H) := by simpa using congrArg Prod.fst hx
      intro i z hi hz
      obtain ⟨b, hb, hf⟩ := Lib.mapM_at hm i i (by simp [hi])
      obtain ⟨s, hc, rfl, _⟩ := DataW.trod_string Tryd.underlying9 hf
      have h1 : cs[i]? = some (.string s) := by
        have := congrArg (·[0]?) hc
        simpa [List.getElem?_take, List.getElem?_drop] using this
      have h2 := congrArg (·[i]?) hxs
      simp only [List.getElem?_map, hb, hz, Option.map_some, Option.some.injEq, DataW.lit.injEq, Lit.string.injEq] at h2
      rw [h1, ← h2, Pl.data_str]
    · cases h

theorem names_met {W : World} (h : laidMetH Tryd.prog [("loop.example/separation/impl.termNames", Rows.laid_loop_example_separation_impl_termNames)] W) : TabN W := by
  have h' : laidMet Tryd.prog [("loop.example/separation/impl.termNames", Rows.laid_loop_example_separation_impl_termNames)] W := h
  obtain ⟨ps, ⟨g', t', cs, fuel, p, q, hg', ht', hvar, hd, _, _⟩, _⟩ := h'
  obtain rfl := Option.some.inj (gNames.symm.trans hg')
  obtain rfl := Option.some.inj (gNamesType.symm.trans ht')
  intro t ht8
  have h1 := texts_of (zs := [[110, 105, 108], [97], [98], [99], [100], [112], [113], [114], [115]]) hd t (Pl.nmN t) (by omega) ((show ∀ a : Fin 9, ([[110, 105, 108], [97], [98], [99], [100], [112], [113], [114], [115]] : List (List UInt8))[a.val]? = some (Pl.nmN a.val) by decide) ⟨t, by omega⟩)
  have h2 := World.var?_cell gNames hvar t
  rw [h2]
  simpa using h1

/-- A world for the witness: the settled one, the table holding what its initialiser lays. -/
noncomputable def laidWorld (os : Os) : World :=
  { World.holding Tryd.prog os ⟨#[], #[], []⟩ with heap := (World.holding Tryd.prog os ⟨#[], #[], []⟩).heap.modify 0 fun
      | .cells _ t frozen => .cells #[.string ⟨#[110, 105, 108]⟩, .string ⟨#[97]⟩, .string ⟨#[98]⟩, .string ⟨#[99]⟩, .string ⟨#[100]⟩, .string ⟨#[112]⟩, .string ⟨#[113]⟩, .string ⟨#[114]⟩, .string ⟨#[115]⟩] t frozen
      | o => o }

end Go.Proofs.YtifdefkkofngoaaDoor

/- The step of a tied row that lists more tables than the names' one: the names' table is on the list. No conditions. -/
namespace Go.Proofs.YtifdefkkofngoaaDoor
open Go.ChangeShapes Go.WideShapes Go.ChangeAt Go.RowKit

theorem laidVars_mem {P : Program} {w : World} {n : String} {d : DataW Unit} : ∀ {l : List (String × DataW Unit)} {ps : List MemPlace}, DataW.LaidVars P w l ps → (n, d) ∈ l →
    ∃ g t cs fuel p, P.globalNamed n = some g ∧ (P.globals[g]?).map (·.type) = some t ∧ w.var? P n = some cs ∧ DataW.trod (fun _ => ()) P w 0 (fun _ => true) false fuel t cs.toList = some (d, p)
  | [], _, _, hm => by cases hm
  | (m, e) :: r, _, h, hm => by
    obtain ⟨g, t, cs, fuel, p, q, h1, h2, h3, h4, h5, _⟩ := h
    rcases List.mem_cons.1 hm with hh | hh
    · obtain ⟨rfl, rfl⟩ := Prod.mk.inj hh
      exact ⟨g, t, cs, fuel, p, h1, h2, h3, h4⟩
    · exact laidVars_mem h5 hh

theorem names_metL {W : World} {l : List (String × DataW Unit)} (h : laidMet Tryd.prog l W) (hm : ("loop.example/separation/impl.termNames", Rows.laid_loop_example_separation_impl_termNames) ∈ l) : TabN W := by
  obtain ⟨ps, hl, _⟩ := h
  obtain ⟨g', t', cs, fuel, p, hg', ht', hvar, hd⟩ := laidVars_mem hl hm
  obtain rfl := Option.some.inj (gNames.symm.trans hg')
  obtain rfl := Option.some.inj (gNamesType.symm.trans ht')
  intro t ht8
  have h1 := texts_of (zs := [[110, 105, 108], [97], [98], [99], [100], [112], [113], [114], [115]]) hd t (Pl.nmN t) (by omega) ((show ∀ a : Fin 9, ([[110, 105, 108], [97], [98], [99], [100], [112], [113], [114], [115]] : List (List UInt8))[a.val]? = some (Pl.nmN a.val) by decide) ⟨t, by omega⟩)
  have h2 := World.var?_cell gNames hvar t
  rw [h2]
  simpa using h1

end Go.Proofs.YtifdefkkofngoaaDoor
