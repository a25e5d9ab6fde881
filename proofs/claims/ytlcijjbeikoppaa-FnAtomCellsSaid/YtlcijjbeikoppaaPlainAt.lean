/- Plain law of atoms: the cells that an atom describes are allocated and different; a segment of one cell is a cell. No program. -/
import Derived.Test.YtlcijjbeikoppaaPlainCells
import Derived.Test.YtlcijjbeikoppaaPlainLaws
namespace Go.Proofs.Ytlcijjbeikoppaa.Pl
set_option linter.unusedVariables false

structure AtLaw (s : St) (x : Atm) (l : List Int) : Prop where
  len8 : l.length ≤ 8
  used : ∀ n ∈ l, n ∈ usedC s
  ap : ∀ i j (hi : i < l.length) (hj : j < l.length), i < j → l[i] ≠ l[j]
  one : x.k = 2 → l.length = 1 → atomR s ⟨1, x.a, x.b⟩ = (l, true)
  len : x.k = 2 ∨ l.length = 1
theorem at_law {s : St} {x : Atm} {l : List Int} (hr : (l, true) = atomR s x) : AtLaw s x l := by
  have hsx : stv s = true ∧ av x = true := by
    unfold atomR at hr
    split at hr
    · rename_i h; rwa [Bool.and_eq_true] at h
    · cases hr
  obtain ⟨hs, hx⟩ := hsx
  obtain ⟨hk, ha, hb⟩ := (av_iff x).1 hx
  rw [atomR_ok hs hx] at hr
  have h8 := l4R_len s x
  rw [← hr] at h8
  have hin : ∀ n ∈ l, n ∈ usedC s := fun n hn => by
    have hh := l4R_has hr.symm n hn
    unfold usedC
    rw [if_pos hs, mem_usedTo]
    refine ⟨?_, hh⟩
    have hd : adB n = true := by
      cases hq : adB n with
      | true => rfl
      | false => rw [hasB_iff, cont_out hq] at hh; omega
    have := (adB_iff n).1 hd
    omega
  by_cases h2 : x.k = 2
  · have hw : way s.h 8 (tval s.v x.a) (tval s.v x.b) = some l := by
      unfold l4R at hr
      rw [if_pos h2] at hr
      cases hq : way s.h 8 (tval s.v x.a) (tval s.v x.b) with
      | none => rw [hq] at hr; simp at hr
      | some m => rw [hq] at hr; simp only [Prod.mk.injEq, and_true] at hr; rw [hr]
    have va := (vlB_iff _).2 (stv_val hs ha)
    have vb := (vlB_iff _).2 (stv_val hs hb)
    have hwc : (l, true) = walkC ⟨s.v, s.h⟩ (tval s.v x.a) (tval s.v x.b) := by
      unfold walkC
      rw [show stv ⟨s.v, s.h⟩ = true from hs, va, vb]
      simp [hw]
    have L := way_law hwc
    refine ⟨h8, hin, L.ap, fun _ h1 => ?_, .inl h2⟩
    have hx1 : av ⟨1, x.a, x.b⟩ = true := (av_iff _).2 ⟨.inl rfl, ha, hb⟩
    rw [atomR_ok hs hx1]
    have e0 : l[0]'(by omega) = tval s.v x.a := by rw [L.at_ 0 (by omega)]; rfl
    have el : l = [tval s.v x.a] := by
      obtain ⟨n, rfl⟩ := List.length_eq_one_iff.1 h1
      rw [← e0]; rfl
    have hh : hasB s.h (tval s.v x.a) = true := way_has hw _ (by rw [el]; simp)
    have hf : cont s.h (tval s.v x.a) = tval s.v x.b := by
      have := L.fin
      rw [h1] at this
      exact this
    unfold l4R
    rw [if_neg (by show ¬ (1 : Int) = 2; omega)]
    show (if hasB s.h (tval s.v x.a) && decide (cont s.h (tval s.v x.a) = tval s.v x.b) then ([tval s.v x.a], true) else ([], false)) = (l, true)
    rw [hh, hf, el]; simp
  · have hl : l = [tval s.v x.a] := by
      unfold l4R at hr
      rw [if_neg h2] at hr
      split at hr
      · simp only [Prod.mk.injEq, and_true] at hr; exact hr
      · simp at hr
    refine ⟨h8, hin, fun i j hi hj hij => by rw [hl] at hi hj; simp at hi hj; omega, fun h => absurd h h2, .inr (by rw [hl]; rfl)⟩

end Go.Proofs.Ytlcijjbeikoppaa.Pl
