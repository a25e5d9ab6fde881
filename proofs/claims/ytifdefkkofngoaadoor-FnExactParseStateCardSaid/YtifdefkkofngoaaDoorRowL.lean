/- The step of a tied row that lists more tables than the names' one: the names' table is on the list. No conditions. -/
import Derived.Test.YtifdefkkofngoaaDoorRowT
import Derived.Test.YtifdefkkofngoaaDoorLx
import Derived.Lay
namespace Go.Proofs.YtifdefkkofngoaaDoor
open Go.ChangeShapes Go.WideShapes Go.ChangeAt Go.RowKit

theorem laidVars_mem {P : Program} {w : World} {n : String} {d : DataW Unit} : ∀ {l : List (String × DataW Unit)} {ps : List MemPlace}, DataW.LaidVars P w l ps → (n, d) ∈ l →
    ∃ g t cs fuel p, P.globalNamed n = some g ∧ (P.globals[g]?).map (·.type) = some t ∧ w.var? P n = some cs ∧ DataW.trod (fun _ => ()) P w 0 (fun _ => true) false fuel t cs.toList = some (d, p)
  | [], _, _, hm => by cases hm
  | (m, e) :: r, _, h, hm => by
    obtain ⟨g, t, cs, fuel, p, q, h1, h2, h3, h4, h5, _⟩ := h
    rcases List.mem_cons.1 hm with hh | hh
    · obtain ⟨rfl, rfl⟩ := Prod.mk.inj hh
      exact ⟨g, t, cs, fuel, p, h1, h2, h3, h4⟩
    · exact laidVars_mem h5 hh

theorem names_metL {W : World} {l : List (String × DataW Unit)} (h : laidMet Tryd.prog l W) (hm : ("loop.example/separation/impl.termNames", Rows.laid_loop_example_separation_impl_termNames) ∈ l) : TabN W := by
  obtain ⟨ps, hl, _⟩ := h
  obtain ⟨g', t', cs, fuel, p, hg', ht', hvar, hd⟩ := laidVars_mem hl hm
  obtain rfl := Option.some.inj (gNames.symm.trans hg')
  obtain rfl := Option.some.inj (gNamesType.symm.trans ht')
  intro t ht8
  have h1 := texts_of (zs := [[110, 105, 108], [97], [98], [99], [100], [112], [113], [114], [115]]) hd t (Pl.nmN t) (by omega) ((show ∀ a : Fin 9, ([[110, 105, 108], [97], [98], [99], [100], [112], [113], [114], [115]] : List (List UInt8))[a.val]? = some (Pl.nmN a.val) by decide) ⟨t, by omega⟩)
  have h2 := World.var?_cell gNames hvar t
  rw [h2]
  simpa using h1

end Go.Proofs.YtifdefkkofngoaaDoor
