/- A digit read, in the program. No conditions. -/
import Derived.Test.YtifdefkkofngoaaDoorPg
import Derived.Test.YtifdefkkofngoaaDoorPa
import Derived.Test.YtifdefkkofngoaaDoorPlainAll
namespace Go.Proofs.YtifdefkkofngoaaDoor
open Go.RowKit
set_option linter.unusedVariables false

theorem pD_one {c : UInt8} (h1 : 48 ≤ c.toNat) (h2 : c.toNat ≤ 56) : Pl.pD [c] = ((c.toNat : Int) - 48, true) := by
  show (if 48 ≤ c ∧ c ≤ 56 then _ else _) = _
  rw [if_pos ⟨h1, h2⟩]
theorem pD_out {c : UInt8} (h : ¬ (48 ≤ c.toNat ∧ c.toNat ≤ 56)) : Pl.pD [c] = (0, false) := by
  show (if 48 ≤ c ∧ c ≤ 56 then _ else _) = _
  rw [if_neg (fun k => h ⟨k.1, k.2⟩)]
theorem pD_len {s : List UInt8} (h : s.length ≠ 1) : Pl.pD s = (0, false) := by
  unfold Pl.pD
  split
  · exact absurd rfl h
  · rfl

set_option maxRecDepth 100000 in
set_option maxHeartbeats 1600000 in
theorem parseDigit_c (s : List UInt8) (w : World) : Calls Tryd.prog 50 #[.string (Pl.str s)] w fun e w' => e = .returned (.tuple #[.int .i64 (Pl.pD s).1, .bool (Pl.pD s).2]) ∧ w = w' := by
  have hsz : (Pl.str s).size = s.length := Pl.str_size s
  by_cases h1 : s.length = 1
  · obtain ⟨c, rfl⟩ : ∃ c, s = [c] := List.length_eq_one_iff.1 h1
    have hsz1 : (Pl.str [c]).size = 1 := hsz
    have hb : (((Pl.str [c]).size : Int) != 1) = false := by rw [hsz1]; rfl
    have hg : (Pl.str [c])[0]'(by rw [hsz1]; omega) = c := str_get (s := [c]) (by simp) _
    clear h1 hsz
    by_cases h48 : 48 ≤ c.toNat
    · have k48 : ¬ (c.toNat : Int) < 48 := by omega
      by_cases h56 : c.toNat ≤ 56
      · have k56 : ¬ (56 : Int) < (c.toNat : Int) := by omega
        have hw : IntKind.u8.wrap ((c.toNat : Int) - 48) = (c.toNat : Int) - 48 := by rw [IntKind.wrap_u8]; omega
        have hw2 : IntKind.i64.wrap ((c.toNat : Int) - 48) = (c.toNat : Int) - 48 := IntWalk.i64_in _ (by omega)
        have HX := Lib.hid (pD_one h48 h56)
        clear h48 h56
        go_enter Tryd.func50, Tryd.ntmps50
        go_wp2_with fail
        go_ret2
        exact ⟨by rw [HX.out]; rfl, rfl⟩
      · have k56 : (56 : Int) < (c.toNat : Int) := by omega
        have HX := Lib.hid (pD_out (c := c) (by omega))
        go_enter Tryd.func50, Tryd.ntmps50
        go_wp2_with fail
        go_ret2
        exact ⟨by rw [HX.out]; rfl, rfl⟩
    · have k48 : (c.toNat : Int) < 48 := by omega
      have HX := Lib.hid (pD_out (c := c) (by omega))
      go_enter Tryd.func50, Tryd.ntmps50
      go_wp2_with fail
      go_ret2
      exact ⟨by rw [HX.out]; rfl, rfl⟩
  · have hb : (((Pl.str s).size : Int) != 1) = true := by rw [hsz, bne_iff_ne]; omega
    have hb2 : ((s.length : Int) != 1) = true := by rw [bne_iff_ne]; omega
    have HX := Lib.hid (pD_len h1)
    go_enter Tryd.func50, Tryd.ntmps50
    go_wp2_with fail
    go_ret2
    exact ⟨by rw [HX.out]; rfl, rfl⟩

end Go.Proofs.YtifdefkkofngoaaDoor
