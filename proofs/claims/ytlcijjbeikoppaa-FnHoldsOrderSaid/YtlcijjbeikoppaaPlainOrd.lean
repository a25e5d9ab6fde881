/- Plain law of conjunctions: the order of the two assertions makes no difference to their truth. No program. -/
import Derived.Test.YtlcijjbeikoppaaPlainCells
namespace Go.Proofs.Ytlcijjbeikoppaa.Pl
set_option linter.unusedVariables false

theorem addP_append (l m : List Int) : ∀ p, addP (l ++ m) p = (addP l p).bind (addP m) := by
  induction l with
  | nil => intro p; rfl
  | cons n l ih =>
    intro p
    simp only [List.cons_append, addP]
    split
    · rfl
    · exact ih _
theorem addP_perm {l m : List Int} (h : l.Perm m) : ∀ p, addP l p = addP m p := by
  induction h with
  | nil => intro p; rfl
  | cons n _ ih =>
    intro p
    simp only [addP]
    split
    · rfl
    · exact ih _
  | swap n m l =>
    intro p
    simp only [addP]
    by_cases hn : p n = true
    · by_cases hm : p m = true
      · simp [hn, hm]
      · simp [hn, hm]
    · by_cases hm : p m = true
      · simp [hn, hm]
      · by_cases e : m = n
        · subst e; simp [hn]
        · have e' : ¬ n = m := fun x => e x.symm
          have f : (fun t => (p t || decide (t = m)) || decide (t = n)) = (fun t => (p t || decide (t = n)) || decide (t = m)) := by
            funext t; rw [Bool.or_assoc, Bool.or_assoc, Bool.or_comm (decide (t = m))]
          simp [hn, hm, e, e', f]
  | trans _ _ ih1 ih2 => intro p; rw [ih1, ih2]
def okL (s : St) (l : List Atm) : Bool := l.all fun x => (l4R s x).2
def flatL (s : St) (l : List Atm) : List Int := l.flatMap fun x => (l4R s x).1
theorem cellsP_eq (s : St) (l : List Atm) : ∀ p, cellsP s l p = if okL s l then addP (flatL s l) p else none := by
  induction l with
  | nil => intro p; rfl
  | cons x l ih =>
    intro p
    unfold cellsP okL flatL
    rw [List.all_cons, List.flatMap_cons, addP_append]
    rcases hx : l4R s x with ⟨m, b⟩
    cases b with
    | false => simp
    | true =>
      simp only [Bool.true_and]
      cases ha : addP m p with
      | none => simp
      | some q =>
        simp only [Option.bind_some]
        rw [ih q]; rfl
theorem cellsP_comm (s : St) (l m : List Atm) (p : Int → Bool) : cellsP s (l ++ m) p = cellsP s (m ++ l) p := by
  rw [cellsP_eq, cellsP_eq]
  have e1 : okL s (l ++ m) = okL s (m ++ l) := by unfold okL; rw [List.all_append, List.all_append, Bool.and_comm]
  have e2 : addP (flatL s (l ++ m)) p = addP (flatL s (m ++ l)) p := by
    unfold flatL
    rw [List.flatMap_append, List.flatMap_append]
    exact addP_perm List.perm_append_comm p
  rw [e1, e2]
theorem asv_comm (a b : Asr) : asv (join a b) = asv (join b a) := by
  rw [Bool.eq_iff_iff, asv_iff, asv_iff, fsv_iff, fsv_iff]
  unfold join
  simp only [List.length_append, List.mem_append]
  constructor
  · rintro ⟨⟨h1, h2⟩, h3, h4⟩
    exact ⟨⟨by omega, fun f hf => h2 f hf.symm⟩, by omega, fun x hx => h4 x hx.symm⟩
  · rintro ⟨⟨h1, h2⟩, h3, h4⟩
    exact ⟨⟨by omega, fun f hf => h2 f hf.symm⟩, by omega, fun x hx => h4 x hx.symm⟩
theorem holdB_comm (f g : List Fct) (v : List Int) : holdB (f ++ g) v = holdB (g ++ f) v := by
  unfold holdB
  rw [List.all_append, List.all_append, Bool.and_comm]
theorem holds_comm (s : St) (a b : Asr) : holdsB s (join a b) = holdsB s (join b a) := by
  have e : partP s (join a b) = partP s (join b a) := by
    unfold partP
    rw [asv_comm a b]
    show (if stv s && asv (join b a) && holdB (a.f ++ b.f) s.v then cellsP s (a.a ++ b.a) noP else none) = (if stv s && asv (join b a) && holdB (b.f ++ a.f) s.v then cellsP s (b.a ++ a.a) noP else none)
    rw [holdB_comm, cellsP_comm]
  unfold holdsB
  rw [e]
/-- What the law holds against each other. -/
theorem star_comm (a b : Asr) : (starR a b).2 = (starR b a).2 ∧ ((starR a b).2 = true → (starR a b).1 = join a b ∧ (starR b a).1 = join b a) := by
  cases h1 : asv a with
  | false => rw [starR_1 h1, starR_2 h1]; exact ⟨rfl, fun h => by cases h⟩
  | true => cases h2 : asv b with
    | false => rw [starR_2 h2, starR_1 h2]; exact ⟨rfl, fun h => by cases h⟩
    | true => cases h3 : asv (join a b) with
      | false => rw [starR_3 h3, starR_3 (by rw [asv_comm]; exact h3)]; exact ⟨rfl, fun h => by cases h⟩
      | true => rw [starR_ok h1 h2 h3, starR_ok h2 h1 (by rw [asv_comm]; exact h3)]; exact ⟨rfl, fun _ => ⟨rfl, rfl⟩⟩

end Go.Proofs.Ytlcijjbeikoppaa.Pl
