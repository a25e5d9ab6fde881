/- A digit as text, in the reference. No conditions. -/
import Derived.Test.YtifdefkkofngoaaDoorFst
import Derived.Laws.IdiomStrings
namespace Go.Proofs.YtifdefkkofngoaaDoor
open Go.RowKit
set_option linter.unusedVariables false

theorem dg_byte {n : Int} (h0 : 0 ≤ n) (h8 : n ≤ 8) : (((Pl.dg n)[0]'(by show 0 < 1; omega)).toNat : Int) = 48 + n := by
  obtain ⟨k, rfl⟩ := Int.eq_ofNat_of_zero_le h0
  have he : (UInt8.ofNat (48 + k)).toNat = 48 + k := (show ∀ k : Fin 9, (UInt8.ofNat (48 + k.val)).toNat = 48 + k.val by decide) ⟨k, by omega⟩
  show ((UInt8.ofNat (48 + (k : Int).toNat)).toNat : Int) = _
  rw [Int.toNat_natCast, he]; omega

set_option maxRecDepth 100000 in
set_option maxHeartbeats 1600000 in
theorem l18Dec_c (n : Int) (h0 : 0 ≤ n) (h8 : n ≤ 8) (w : World) : Calls Tryd.prog 39 #[.int .i64 n] w fun e w' => e = .returned (.string (Pl.str (Pl.dg n))) ∧ Grow w w' := by
  have k1 : ¬ n < -9223372036854775807 := by omega
  have k2 : ¬ n < 0 := by omega
  have k3 : ¬ 9 < n := by omega
  go_enter Tryd.func39, Tryd.ntmps39
  go_wp2_with fail
  go_loopw [0, 3] (fun t u wr => t = .int .i64 n ∧ u = .string ⟨#[]⟩ ∧ wr = w) (fun _ _ _ => 0)
  case atStart => exact ⟨rfl, rfl, rfl⟩
  case round =>
    obtain ⟨rfl, rfl, rfl⟩ := hrel
    have hb : (convert 35 9 (.slice (some ⟨wr.heap.size, 0, none⟩) 1 1)).run Tryd.prog (wr.alloc (.cells #[.int .u8 (48 + n)] 5)) = .ok (.string (Pl.str (Pl.dg n))) (wr.alloc (.cells #[.int .u8 (48 + n)] 5)) := run_convert_bytes_back _ _ _ _ ⟨wr.heap.size, 0, none⟩ 1 (Pl.dg n) Tryd.underlying35 Tryd.underlying5 Tryd.underlying9 (fun j hj => by
      obtain rfl : j = 0 := by have : (Pl.dg n).length = 1 := rfl; omega
      show World.cell? _ ⟨wr.heap.size, 0 + 0, none⟩ = _
      rw [dg_byte h0 h8]
      exact news_one wr _ _ 0 _ rfl)
    have hsz : (Pl.str (Pl.dg n)).size = 1 := Pl.str_size _
    have hcat : Pl.str (Pl.dg n) ++ (⟨#[]⟩ : ByteArray) = Pl.str (Pl.dg n) := by rw [show (⟨#[]⟩ : ByteArray) = Pl.str [] from rfl, Pl.str_append, List.append_nil]
    go_wp2_with fail
    go_ret
    exact ⟨by rfl, (by repeat (first | exact Grow.refl _ | assumption | refine Grow.alloc ?_ _ | refine Grow.drew ?_ | refine Grow.drewN ?_ _ | refine Grow.trans ?_ (by assumption) | refine Grow.below ?_ (by assumption) (by first | exact Nat.le_refl _ | omega)))⟩

end Go.Proofs.YtifdefkkofngoaaDoor
