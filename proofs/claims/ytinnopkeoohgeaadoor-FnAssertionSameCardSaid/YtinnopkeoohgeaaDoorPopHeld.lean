/- A drawn region whose last operation waits for all others, walked with a condition on the world that need not hold behind that last operation. Plain law on the kit's regions; no program. -/
import Derived.Test.YtinnopkeoohgeaaDoorPopLast
namespace Go.Proofs.YtinnopkeoohgeaaDoor
open Go
set_option linter.unusedVariables false

section
variable {P : Program} {md : Region.Mode} {Q : Exit → Act → World → Prop} {S : World → Prop}

theorem pop_begin {id : Nat} {os : List Oper} {a : Act} {w : World} (hm : P.follows .mixedOrders = true) (hp : plainB .any os.toArray = true) (hs : Region.sinkB .any os.toArray (os.length - 1) = true)
    (hn : os.isEmpty = false) (hS : S w.drew)
    (h : ∀ l last, os.dropLast = l → os.getLast? = some last → S w.drew → wpAnyH P .any l.toArray (lastPost P l.toArray last Q) S l.length (Array.replicate l.length false) a w.drew) : (Code.region id os.toArray true).wp P Q a w := by
  have hne : os ≠ [] := by rintro rfl; cases hn
  obtain ⟨l, last, rfl⟩ : ∃ l last, os = l ++ [last] := ⟨os.dropLast, os.getLast hne, (List.dropLast_concat_getLast hne).symm⟩
  have h1 := h l last (by simp) (by simp) hS
  have he : (l ++ [last]).toArray = l.toArray.push last := by simp
  have hl : (l ++ [last]).length - 1 = l.toArray.size := by simp
  rw [hl] at hs
  rw [he] at hp hs ⊢
  refine wp_region_pop hm hp hs ?_
  have h2 := wpAny_of_held _ _ _ _ h1
  simpa using h2

theorem pop_take {os : List Oper} (i : Nat) {oi : Oper} {v : Value} {fuel : Nat} {listed : Array Bool} {a : Act} {w : World} (hi : os[i]? = some oi)
    (hs : Region.noSelect os.toArray = true) (hf : Region.free md os.toArray listed i = true) (hr : (Region.ready md os.toArray listed).contains i = true)
    (hQ : ∀ c a w, Q (.panic c) (a.put oi.dst v) w → Q (.panic c) a w) (hw : Region.wanted oi (yielded os.toArray a.tmps) = true) (hS : S w)
    (hy : ∀ w, S w → (execOp a.eval oi).run P w = .ok (.value v) w)
    (h : wpAnyH P md os.toArray Q S fuel (listed.setIfInBounds i true) (a.put oi.dst v) w) : wpAnyH P md os.toArray Q S (fuel + 1) listed a w :=
  wpAnyH_take (by rw [List.getElem?_toArray]; exact hi) hs hf hr hQ (.inl ⟨hw, hy⟩) hS h

theorem pop_one {os : List Oper} (i : Nat) {o : Oper} {fuel : Nat} {listed : Array Bool} {a : Act} {w : World} (hr : Region.ready md os.toArray listed = [i]) (ho : os[i]? = some o)
    (h : ∀ K' : Act → World → Prop, Shut (∀ a w, S w → (S w → wpAnyH P md os.toArray Q S fuel (listed.setIfInBounds i true) a w) → K' a w) → if Region.wanted o (yielded os.toArray a.tmps) = true then Oper.wp P o a w K' Q else K' (a.put o.dst undef) w) :
    wpAnyH P md os.toArray Q S (fuel + 1) listed a w :=
  wpAnyH_ready hr (by simp) (AllReadyH.cons (by rw [List.getElem?_toArray]; exact ho) h AllReadyH.nil)

theorem pop_two {os : List Oper} (i j : Nat) {o o' : Oper} {fuel : Nat} {listed : Array Bool} {a : Act} {w : World} (hr : Region.ready md os.toArray listed = [i, j]) (ho : os[i]? = some o) (ho' : os[j]? = some o')
    (h : ∀ K' : Act → World → Prop, Shut (∀ a w, S w → (S w → wpAnyH P md os.toArray Q S fuel (listed.setIfInBounds i true) a w) → K' a w) → if Region.wanted o (yielded os.toArray a.tmps) = true then Oper.wp P o a w K' Q else K' (a.put o.dst undef) w)
    (h' : ∀ K' : Act → World → Prop, Shut (∀ a w, S w → (S w → wpAnyH P md os.toArray Q S fuel (listed.setIfInBounds j true) a w) → K' a w) → if Region.wanted o' (yielded os.toArray a.tmps) = true then Oper.wp P o' a w K' Q else K' (a.put o'.dst undef) w) :
    wpAnyH P md os.toArray Q S (fuel + 1) listed a w :=
  wpAnyH_ready hr (by simp) (AllReadyH.cons (by rw [List.getElem?_toArray]; exact ho) h (AllReadyH.cons (by rw [List.getElem?_toArray]; exact ho') h' AllReadyH.nil))

theorem pop_three {os : List Oper} (i j k : Nat) {o o' o'' : Oper} {fuel : Nat} {listed : Array Bool} {a : Act} {w : World} (hr : Region.ready md os.toArray listed = [i, j, k]) (ho : os[i]? = some o) (ho' : os[j]? = some o') (ho'' : os[k]? = some o'')
    (h : ∀ K' : Act → World → Prop, Shut (∀ a w, S w → (S w → wpAnyH P md os.toArray Q S fuel (listed.setIfInBounds i true) a w) → K' a w) → if Region.wanted o (yielded os.toArray a.tmps) = true then Oper.wp P o a w K' Q else K' (a.put o.dst undef) w)
    (h' : ∀ K' : Act → World → Prop, Shut (∀ a w, S w → (S w → wpAnyH P md os.toArray Q S fuel (listed.setIfInBounds j true) a w) → K' a w) → if Region.wanted o' (yielded os.toArray a.tmps) = true then Oper.wp P o' a w K' Q else K' (a.put o'.dst undef) w)
    (h'' : ∀ K' : Act → World → Prop, Shut (∀ a w, S w → (S w → wpAnyH P md os.toArray Q S fuel (listed.setIfInBounds k true) a w) → K' a w) → if Region.wanted o'' (yielded os.toArray a.tmps) = true then Oper.wp P o'' a w K' Q else K' (a.put o''.dst undef) w) :
    wpAnyH P md os.toArray Q S (fuel + 1) listed a w :=
  wpAnyH_ready hr (by simp) (AllReadyH.cons (by rw [List.getElem?_toArray]; exact ho) h (AllReadyH.cons (by rw [List.getElem?_toArray]; exact ho') h' (AllReadyH.cons (by rw [List.getElem?_toArray]; exact ho'') h'' AllReadyH.nil)))

end
end Go.Proofs.YtinnopkeoohgeaaDoor
