/- A drawn region whose last operation waits for all others: the region without it, then that operation. Plain law on the kit's regions; no program. -/
import Derived.Deep.RegionHeld3
import Derived.StillTail
namespace Go.Proofs.YtifdefkkofngoaaDoor
open Go
set_option linter.unusedVariables false

section
variable {P : Program} {md : Region.Mode} {Q : Exit → Act → World → Prop} {ops : Array Oper} {last : Oper}

/-- No operation is guarded; each waits for earlier ones alone. -/
def plainB (md : Region.Mode) (ops : Array Oper) : Bool :=
  (List.range ops.size).all fun i => ((ops[i]?).map fun o => o.guard.isNone && o.after.all fun e => !Region.binds md e || decide (e.on < i)).getD false
theorem plain_at {i : Nat} {o : Oper} (h : plainB md ops = true) (ho : ops[i]? = some o) : o.guard = none ∧ ∀ e ∈ o.after, Region.binds md e = true → e.on < i := by
  have hi : i < ops.size := (Array.getElem?_eq_some_iff.1 ho).1
  have := List.all_eq_true.1 h i (List.mem_range.2 hi)
  rw [ho] at this
  simp only [Option.map_some, Option.getD_some, Bool.and_eq_true, Option.isNone_iff_eq_none] at this
  refine ⟨this.1, fun e he hb => ?_⟩
  have h2 := (Array.all_eq_true'.1 this.2) e he
  simpa [hb] using h2

/-- The last operation, behind the others. -/
def lastPost (P : Program) (ops : Array Oper) (last : Oper) (Q : Exit → Act → World → Prop) : Exit → Act → World → Prop
  | .normal, a, w => last.wp P a w (Q .normal) Q
  | .panic c, a, w => Q (.panic c) a w
  | .outgrown, a, w => Q .outgrown a w
  | e, a, w => Q e a w

theorem wanted_plain {o : Oper} (h : o.guard = none) {y : Nat → Option Bool} : Region.wanted o y = true := by unfold Region.wanted; rw [h]

/-- The lists of what has come up agree. -/
structure Lists (ops : Array Oper) (listed L : Array Bool) : Prop where
  size : listed.size = ops.size
  sizeL : L.size = ops.size + 1
  same : ∀ i, i < ops.size → L[i]? = listed[i]?
  off : L[ops.size]? = some false
theorem Lists.getD {listed L : Array Bool} (h : Lists ops listed L) {i : Nat} (hi : i < ops.size) (b : Bool) : L.getD i b = listed.getD i b := by
  rw [Array.getD_eq_getD_getElem?, Array.getD_eq_getD_getElem?, h.same i hi]
theorem Lists.set {listed L : Array Bool} (h : Lists ops listed L) {i : Nat} (hi : i < ops.size) : Lists ops (listed.setIfInBounds i true) (L.setIfInBounds i true) := by
  refine ⟨by rw [Array.size_setIfInBounds, h.size], by rw [Array.size_setIfInBounds, h.sizeL], fun j hj => ?_, ?_⟩
  · rw [Array.getElem?_setIfInBounds, Array.getElem?_setIfInBounds, h.same j hj, h.size, h.sizeL]
    by_cases e : i = j
    · subst e; simp [hi]; omega
    · simp [e]
  · rw [Array.getElem?_setIfInBounds, if_neg (by omega)]; exact h.off
theorem push_lt {i : Nat} (hi : i < ops.size) : (ops.push last)[i]? = ops[i]? := by rw [Array.getElem?_push, if_neg (by omega)]
theorem push_eq : (ops.push last)[ops.size]? = some last := by rw [Array.getElem?_push, if_pos rfl]

theorem ready_iff {listed L : Array Bool} (hp : plainB md (ops.push last) = true) (h : Lists ops listed L) {i : Nat} (hi : i < ops.size) : i ∈ Region.ready md (ops.push last) L ↔ i ∈ Region.ready md ops listed := by
  rw [mem_ready, mem_ready, h.getD hi, push_lt hi]
  constructor
  · rintro ⟨h1, o, ho, h2⟩
    refine ⟨h1, o, ho, fun e he hb => ?_⟩
    have := (plain_at hp ((push_lt hi).trans ho)).2 e he hb
    rw [← h.getD (by omega)]; exact h2 e he hb
  · rintro ⟨h1, o, ho, h2⟩
    refine ⟨h1, o, ho, fun e he hb => ?_⟩
    have := (plain_at hp ((push_lt hi).trans ho)).2 e he hb
    rw [h.getD (by omega)]; exact h2 e he hb
theorem all_listed {listed L : Array Bool} (hp : plainB md (ops.push last) = true) (h : Lists ops listed L) (hr : Region.ready md ops listed = []) : ∀ i, i < ops.size → listed.getD i true = true := by
  intro i
  induction i using Nat.strongRecOn with
  | _ i ih =>
    intro hi
    cases hl : listed.getD i true with
    | true => rfl
    | false =>
      exfalso
      obtain ⟨o, ho⟩ : ∃ o, ops[i]? = some o := ⟨ops[i], Array.getElem?_eq_getElem hi⟩
      have : i ∈ Region.ready md ops listed := mem_ready.2 ⟨hl, o, ho, fun e he hb => by
        have h1 := (plain_at hp ((push_lt hi).trans ho)).2 e he hb
        have h2 := ih e.on h1 (by omega)
        cases h3 : listed.getD e.on false with
        | true => rfl
        | false => rw [getD_in (by rw [h.size]; omega) h3] at h2; cases h2⟩
      rw [hr] at this
      cases this
theorem done_any {L : Array Bool} {a : Act} {w : World} (hr : Region.ready md ops L = []) (h : Q .normal a w) : ∀ fuel, wpAny P md ops Q fuel L a w
  | 0 => ⟨hr, h⟩
  | fuel + 1 => ⟨fun _ => h, fun i hi => by rw [hr] at hi; cases hi⟩

theorem wpOp_pop {i : Nat} {K K' : Act → World → Prop} {a : Act} {w : World} (hp : plainB md (ops.push last) = true) (hi : i < ops.size) (hK : ∀ a w, K a w → K' a w)
    (h : wpOp P ops (lastPost P ops last Q) i K a w) : wpOp P (ops.push last) Q i K' a w := by
  obtain ⟨o, ho⟩ : ∃ o, ops[i]? = some o := ⟨ops[i], Array.getElem?_eq_getElem hi⟩
  have hg := (plain_at hp ((push_lt hi).trans ho)).1
  unfold wpOp at *
  rw [push_lt hi]
  simp only [ho, wanted_plain hg, if_true] at h ⊢
  rcases h with h | ⟨h1, h2⟩
  · refine .inl ?_
    unfold Oper.wp at *
    generalize (execOp a.eval o).run P w = r at *
    cases r with
    | ok n w' =>
      cases n <;> simp only [Oper.upon] at h ⊢
      case value v => exact hK _ _ h
      case skip => exact hK _ _ h
      case defer d => exact hK _ _ h
      case enter f args =>
        refine Calls.mono h fun e w'' he => ?_
        cases e with
        | returned v => exact hK _ _ he
        | panicked c => exact he
        | outgrown => obtain ⟨a1, w1, h3⟩ := he; exact ⟨a1, w1, h3⟩
      case row row args => exact Rows.mono h fun v w'' he => hK _ _ he
    | halt x w' =>
      cases x <;> simp only [Oper.upon] at h ⊢
      case panic v => exact h
  · obtain ⟨a1, w1, h3⟩ := h2
    exact .inr ⟨h1, a1, w1, h3⟩

theorem any_pop (hp : plainB md (ops.push last) = true) (hs : Region.sinkB md (ops.push last) ops.size = true) : ∀ (fuel : Nat) (listed L : Array Bool) (a : Act) (w : World),
    Lists ops listed L → HeadInv md (ops.push last) ops.size L → wpAny P md ops (lastPost P ops last Q) fuel listed a w → wpAny P md (ops.push last) Q (fuel + 1) L a w := by
  have hc : Region.chainB md (ops.push last) ops.size = true := List.all_eq_true.2 fun t ht => by
    have := List.mem_range.1 ht
    rw [Array.size_push] at this
    rw [Bool.or_eq_true, decide_eq_true_eq]; exact .inl (by omega)
  have stepA : ∀ (fuel : Nat) (listed L : Array Bool) (a : Act) (w : World), Lists ops listed L → Region.ready md ops listed = [] → lastPost P ops last Q .normal a w → wpAny P md (ops.push last) Q (fuel + 1) L a w := by
    intro fuel listed L a w hl hr hq
    have hall := all_listed hp hl hr
    have hallL : ∀ i, i < ops.size → ∀ b, L.getD i b = true := fun i hi b => by
      rw [hl.getD hi]
      have := hall i hi
      cases h3 : listed.getD i false with
      | false => rw [getD_in (by rw [hl.size]; exact hi) h3] at this; cases this
      | true => cases b <;> assumption
    have hoff : ∀ b, L.getD ops.size b = false := fun b => by rw [Array.getD_eq_getD_getElem?, hl.off]; rfl
    refine ⟨fun e => ?_, fun i hi => ?_⟩
    · exfalso
      have : ops.size ∈ Region.ready md (ops.push last) L := mem_ready.2 ⟨hoff _, last, push_eq, fun e he hb => hallL _ ((plain_at hp push_eq).2 e he hb) _⟩
      rw [e] at this
      cases this
    · obtain ⟨h1, o, ho, _⟩ := mem_ready.1 hi
      have hlt : i < (ops.push last).size := (Array.getElem?_eq_some_iff.1 ho).1
      rw [Array.size_push] at hlt
      have hin : i = ops.size := by
        by_cases e : i < ops.size
        · rw [hallL i e] at h1; cases h1
        · omega
      subst hin
      have hdone : Region.ready md (ops.push last) (L.setIfInBounds ops.size true) = [] := by
        rw [List.eq_nil_iff_forall_not_mem]
        intro j hj
        obtain ⟨h2, o2, ho2, _⟩ := mem_ready.1 hj
        have hlt2 : j < (ops.push last).size := (Array.getElem?_eq_some_iff.1 ho2).1
        rw [Array.size_push] at hlt2
        rw [Array.getD_eq_getD_getElem?, Array.getElem?_setIfInBounds] at h2
        by_cases e : ops.size = j
        · rw [if_pos e, if_pos (by rw [hl.sizeL]; omega)] at h2; cases h2
        · rw [if_neg e, ← Array.getD_eq_getD_getElem?, hallL j (by omega)] at h2; cases h2
      unfold wpOp
      rw [push_eq]
      simp only [wanted_plain (plain_at hp push_eq).1, if_true]
      exact .inl (Oper.wp_mono (fun a w hq => done_any hdone hq _) hq)
  intro fuel
  induction fuel with
  | zero => intro listed L a w hl inv h; exact stepA 0 listed L a w hl h.1 h.2
  | succ fuel ih =>
    intro listed L a w hl inv h
    by_cases hr : Region.ready md ops listed = []
    · exact stepA _ listed L a w hl hr (h.1 hr)
    · obtain ⟨j, hj⟩ := List.exists_mem_of_ne_nil _ hr
      obtain ⟨hj1, oj, hoj, _⟩ := mem_ready.1 hj
      have hjn : j < ops.size := (Array.getElem?_eq_some_iff.1 hoj).1
      refine ⟨fun e => ?_, fun i hi => ?_⟩
      · have := (ready_iff hp hl hjn).2 hj
        rw [e] at this
        cases this
      · have hin : i < ops.size := by
          by_cases e : i < ops.size
          · exact e
          · exact absurd hi (tail_waits hs hc (by rw [Array.size_push]; omega) inv (ops.size - j) j rfl hjn (by rw [hl.getD hjn]; exact hj1) i (by omega))
        exact wpOp_pop hp hin (fun a' w' hk => ih _ _ a' w' (hl.set hin) (inv.set hi hin) hk) (h.2 i ((ready_iff hp hl hin).1 hi))

/-- A drawn region whose last operation waits for all others. -/
theorem wp_region_pop {id : Nat} {a : Act} {w : World} (hm : P.follows .mixedOrders = true) (hp : plainB .any (ops.push last) = true) (hs : Region.sinkB .any (ops.push last) ops.size = true)
    (h : wpAny P .any ops (lastPost P ops last Q) ops.size (Array.replicate ops.size false) a { w with drawn := w.drawn + 1 }) : (Code.region id (ops.push last) true).wp P Q a w := by
  refine wp_region_any hm ?_
  rw [Array.size_push]
  refine any_pop hp hs _ _ _ _ _ ⟨by simp, by simp, fun i hi => by rw [Array.getElem?_replicate, Array.getElem?_replicate, if_pos (by omega), if_pos hi], by simp⟩ ⟨by simp, fun j oj _ hl => ?_, fun t h1 h2 => ?_⟩ h
  · rw [getD_replicate_false] at hl; cases hl
  · rw [Array.size_push] at h2
    simp [Array.getD_eq_getD_getElem?, h2]

end
end Go.Proofs.YtifdefkkofngoaaDoor

/- A drawn region whose last operation waits for all others, walked with a condition on the world that need not hold behind that last operation. Plain law on the kit's regions; no program. -/
namespace Go.Proofs.YtifdefkkofngoaaDoor
open Go
set_option linter.unusedVariables false

section
variable {P : Program} {md : Region.Mode} {Q : Exit → Act → World → Prop} {S : World → Prop}

theorem pop_begin {id : Nat} {os : List Oper} {a : Act} {w : World} (hm : P.follows .mixedOrders = true) (hp : plainB .any os.toArray = true) (hs : Region.sinkB .any os.toArray (os.length - 1) = true)
    (hn : os.isEmpty = false) (hS : S w.drew)
    (h : ∀ l last, os.dropLast = l → os.getLast? = some last → S w.drew → wpAnyH P .any l.toArray (lastPost P l.toArray last Q) S l.length (Array.replicate l.length false) a w.drew) : (Code.region id os.toArray true).wp P Q a w := by
  have hne : os ≠ [] := by rintro rfl; cases hn
  obtain ⟨l, last, rfl⟩ : ∃ l last, os = l ++ [last] := ⟨os.dropLast, os.getLast hne, (List.dropLast_concat_getLast hne).symm⟩
  have h1 := h l last (by simp) (by simp) hS
  have he : (l ++ [last]).toArray = l.toArray.push last := by simp
  have hl : (l ++ [last]).length - 1 = l.toArray.size := by simp
  rw [hl] at hs
  rw [he] at hp hs ⊢
  refine wp_region_pop hm hp hs ?_
  have h2 := wpAny_of_held _ _ _ _ h1
  simpa using h2

theorem pop_take {os : List Oper} (i : Nat) {oi : Oper} {v : Value} {fuel : Nat} {listed : Array Bool} {a : Act} {w : World} (hi : os[i]? = some oi)
    (hs : Region.noSelect os.toArray = true) (hf : Region.free md os.toArray listed i = true) (hr : (Region.ready md os.toArray listed).contains i = true)
    (hQ : ∀ c a w, Q (.panic c) (a.put oi.dst v) w → Q (.panic c) a w) (hw : Region.wanted oi (yielded os.toArray a.tmps) = true) (hS : S w)
    (hy : ∀ w, S w → (execOp a.eval oi).run P w = .ok (.value v) w)
    (h : wpAnyH P md os.toArray Q S fuel (listed.setIfInBounds i true) (a.put oi.dst v) w) : wpAnyH P md os.toArray Q S (fuel + 1) listed a w :=
  wpAnyH_take (by rw [List.getElem?_toArray]; exact hi) hs hf hr hQ (.inl ⟨hw, hy⟩) hS h

theorem pop_one {os : List Oper} (i : Nat) {o : Oper} {fuel : Nat} {listed : Array Bool} {a : Act} {w : World} (hr : Region.ready md os.toArray listed = [i]) (ho : os[i]? = some o)
    (h : ∀ K' : Act → World → Prop, Shut (∀ a w, S w → (S w → wpAnyH P md os.toArray Q S fuel (listed.setIfInBounds i true) a w) → K' a w) → if Region.wanted o (yielded os.toArray a.tmps) = true then Oper.wp P o a w K' Q else K' (a.put o.dst undef) w) :
    wpAnyH P md os.toArray Q S (fuel + 1) listed a w :=
  wpAnyH_ready hr (by simp) (AllReadyH.cons (by rw [List.getElem?_toArray]; exact ho) h AllReadyH.nil)

theorem pop_two {os : List Oper} (i j : Nat) {o o' : Oper} {fuel : Nat} {listed : Array Bool} {a : Act} {w : World} (hr : Region.ready md os.toArray listed = [i, j]) (ho : os[i]? = some o) (ho' : os[j]? = some o')
    (h : ∀ K' : Act → World → Prop, Shut (∀ a w, S w → (S w → wpAnyH P md os.toArray Q S fuel (listed.setIfInBounds i true) a w) → K' a w) → if Region.wanted o (yielded os.toArray a.tmps) = true then Oper.wp P o a w K' Q else K' (a.put o.dst undef) w)
    (h' : ∀ K' : Act → World → Prop, Shut (∀ a w, S w → (S w → wpAnyH P md os.toArray Q S fuel (listed.setIfInBounds j true) a w) → K' a w) → if Region.wanted o' (yielded os.toArray a.tmps) = true then Oper.wp P o' a w K' Q else K' (a.put o'.dst undef) w) :
    wpAnyH P md os.toArray Q S (fuel + 1) listed a w :=
  wpAnyH_ready hr (by simp) (AllReadyH.cons (by rw [List.getElem?_toArray]; exact ho) h (AllReadyH.cons (by rw [List.getElem?_toArray]; exact ho') h' AllReadyH.nil))

theorem pop_three {os : List Oper} (i j k : Nat) {o o' o'' : Oper} {fuel : Nat} {listed : Array Bool} {a : Act} {w : World} (hr : Region.ready md os.toArray listed = [i, j, k]) (ho : os[i]? = some o) (ho' : os[j]? = some o') (ho'' : os[k]? = some o'')
    (h : ∀ K' : Act → World → Prop, Shut (∀ a w, S w → (S w → wpAnyH P md os.toArray Q S fuel (listed.setIfInBounds i true) a w) → K' a w) → if Region.wanted o (yielded os.toArray a.tmps) = true then Oper.wp P o a w K' Q else K' (a.put o.dst undef) w)
    (h' : ∀ K' : Act → World → Prop, Shut (∀ a w, S w → (S w → wpAnyH P md os.toArray Q S fuel (listed.setIfInBounds j true) a w) → K' a w) → if Region.wanted o' (yielded os.toArray a.tmps) = true then Oper.wp P o' a w K' Q else K' (a.put o'.dst undef) w)
    (h'' : ∀ K' : Act → World → Prop, Shut (∀ a w, S w → (S w → wpAnyH P md os.toArray Q S fuel (listed.setIfInBounds k true) a w) → K' a w) → if Region.wanted o'' (yielded os.toArray a.tmps) = true then Oper.wp P o'' a w K' Q else K' (a.put o''.dst undef) w) :
    wpAnyH P md os.toArray Q S (fuel + 1) listed a w :=
  wpAnyH_ready hr (by simp) (AllReadyH.cons (by rw [List.getElem?_toArray]; exact ho) h (AllReadyH.cons (by rw [List.getElem?_toArray]; exact ho') h' (AllReadyH.cons (by rw [List.getElem?_toArray]; exact ho'') h'' AllReadyH.nil)))

end
end Go.Proofs.YtifdefkkofngoaaDoor
