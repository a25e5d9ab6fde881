/- The contracts of the library's functions on texts, in the words of the plain laws. Conditions: the texts are shorter than the model's bound. -/
import Derived.Test.YtifdefkkofngoaaDoorShelf
import Derived.Test.YtifdefkkofngoaaDoorNm
namespace Go.Proofs.YtifdefkkofngoaaDoor
open Go.RowKit
set_option linter.unusedVariables false

/-- The library's bound on its fast search is some number. -/
def MaxL (w : World) : Prop := ∃ m : Int, w.cell? ⟨1, 0, none⟩ = some (.int .i64 m)
theorem MaxL.grow {w w' : World} (h : MaxL w) (g : Grow w w') : MaxL w' := let ⟨m, hm⟩ := h; ⟨m, g.cell hm⟩
theorem maxl_of {w : World} (h : w.ShapedOpen Tryd.prog) : MaxL w := Tryd.laysM145.s1_3 w h

theorem Cut_c (s sep : List UInt8) (raw : ByteArray) (hraw : raw = Pl.str sep) (w : World) (hs : s.length ≤ 2000000) (hM : MaxL w) :
    Calls Tryd.prog 51 #[.string (Pl.str s), .string raw] w fun e w' => e = .returned (.tuple #[.string (Pl.str (Lib.cut s sep).1), .string (Pl.str (Lib.cut s sep).2.1), .bool (Lib.cut s sep).2.2]) ∧ Grow w w' := by
  obtain ⟨m, hm⟩ := hM
  subst hraw
  refine (Tryd.strings_Cut (Pl.str s) (Pl.str sep) m w (by rw [Pl.str_size]; omega) hm).mono ?_
  rintro e w' ⟨rfl, n, rfl⟩
  rw [Pl.str_data, Pl.str_data]
  exact ⟨rfl, Grow.drewN (Grow.refl _) n⟩
theorem CutSuffix_c (s sep : List UInt8) (raw : ByteArray) (hraw : raw = Pl.str sep) (w : World) (hs : s.length ≤ 2000000) :
    Calls Tryd.prog 99 #[.string (Pl.str s), .string raw] w fun e w' => e = .returned (.tuple #[.string (Pl.str (Lib.trimSuffix s sep)), .bool (Lib.hasSuffix s sep)]) ∧ w = w' := by
  subst hraw
  refine (Tryd.strings_CutSuffix (Pl.str s) (Pl.str sep) w (by rw [Pl.str_size]; omega)).mono ?_
  rintro e w' ⟨rfl, rfl⟩
  rw [Pl.str_data, Pl.str_data]
  exact ⟨rfl, rfl⟩

theorem CutPrefix_c (s sep : List UInt8) (raw : ByteArray) (hraw : raw = Pl.str sep) (w : World) :
    Calls Tryd.prog 49 #[.string (Pl.str s), .string raw] w fun e w' => e = .returned (.tuple #[.string (Pl.str (Lib.trimPrefix s sep)), .bool (Lib.hasPrefix s sep)]) ∧ w = w' := by
  subst hraw
  refine (Tryd.strings_CutPrefix (Pl.str s) (Pl.str sep) w).mono ?_
  rintro e w' ⟨rfl, rfl⟩
  rw [Pl.str_data, Pl.str_data]
  exact ⟨rfl, rfl⟩

end Go.Proofs.YtifdefkkofngoaaDoor
