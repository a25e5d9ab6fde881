/- Plain law of substitutions: two of them by a third term commute. No program. -/
import Derived.Test.YtlcijjbeikoppaaPlainAsr
namespace Go.Proofs.Ytlcijjbeikoppaa.Pl
set_option linter.unusedVariables false

theorem sub_law {s : Asr} {x t y : Int} {r : Asr × Bool} (hr : r = sbR s x t) (h1 : 1 ≤ y) (h2 : y ≤ 8) : r.2 = true → ¬ x = y → ¬ t = y → ¬ t = x →
    ∃ u z : Asr, sbR r.1 y t = (u, true) ∧ sbR s y t = (z, true) ∧ sbR z x t = (u, true) ∧ u.f.length ≤ 100 ∧ u.a.length ≤ 100 ∧ z.f.length ≤ 100 ∧ z.a.length ≤ 100 := by
  intro hb n1 n2 n3
  have hk : sbOk s x t = true := by
    cases hk : sbOk s x t with
    | true => rfl
    | false => rw [hr, sbR_no hk] at hb; cases hb
  obtain ⟨k1, k2, k3, k4⟩ := (sbOk_iff s x t).1 hk
  have hy : tmB y = true := (tmB_iff y).2 (by omega)
  have e0 : r.1 = sbs s x t := by rw [hr, sbR_ok hk]
  have e1 : sbOk (sbs s x t) y t = true := (sbOk_iff _ _ _).2 ⟨sbs_valid k1 k3, hy, k3, by omega⟩
  have e2 : sbOk s y t = true := (sbOk_iff _ _ _).2 ⟨k1, hy, k3, by omega⟩
  have e3 : sbOk (sbs s y t) x t = true := (sbOk_iff _ _ _).2 ⟨sbs_valid k1 k3, k2, k3, k4⟩
  have l := asv_len k1
  have l1 := sbs_len (sbs s x t) y t
  have l2 := sbs_len s x t
  have l3 := sbs_len s y t
  refine ⟨sbs (sbs s x t) y t, sbs s y t, by rw [e0, sbR_ok e1], sbR_ok e2, by rw [sbR_ok e3, sbs_comm s (x := x) (y := y) (u := t) n1 n2 n3], ?_, ?_, ?_, ?_⟩ <;> omega

end Go.Proofs.Ytlcijjbeikoppaa.Pl
