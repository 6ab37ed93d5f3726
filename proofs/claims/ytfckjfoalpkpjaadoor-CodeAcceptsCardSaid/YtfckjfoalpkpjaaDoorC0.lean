/- What a row of this seat lists gives what the texts ask of the library's variables; and a world in which all that is listed lies. -/
import Derived.Test.YtfckjfoalpkpjaaDoorCards
import Derived.Test.YtfckjfoalpkpjaaDoorTie
import Derived.Test.YtfckjfoalpkpjaaDoorH0
import Derived.WalkKit
import Derived.ProofKit
import Derived.OpenShut
import Derived.ShutString
import Derived.ChangeOld
import Derived.Below
import Derived.SizedLaws
import Derived.Deep.DeepHandedRow
import Derived.Lib.LaidTab
import Derived.Stop.LaidErr
import Derived.Shelf.Vars
import Derived.Lay
namespace Go.Proofs.YtfckjfoalpkpjaaDoor.Card
open Go.ChangeShapes Go.WideShapes Go.ChangeAt Go.RowKit
open Go.Proofs.YtfckjfoalpkpjaaDoor.C (LaidW pow10_named)

/-- The variables that each row of this seat lists. -/
def L7 : List (String × DataW Unit) := [("math/bits.deBruijn32tab", Rows.laid_math_bits_deBruijn32tab), ("math/bits.deBruijn64tab", Rows.laid_math_bits_deBruijn64tab), ("internal/strconv.uint64pow10", Rows.laid_internal_strconv_uint64pow10), ("unicode/utf8.acceptRanges", Rows.laid_unicode_utf8_acceptRanges), ("strconv.ErrRange", Rows.laid_strconv_ErrRange), ("strconv.ErrSyntax", Rows.laid_strconv_ErrSyntax), ("unicode/utf8.first", Rows.laid_unicode_utf8_first)]
theorem own : ownKnob Tryd.prog.godebug = none := by kernel_rfl
theorem laidOut : laidOutB Tryd.prog = true := by kernel_rfl
theorem star : "*" ++ "errors.errorString" = "*errors.errorString" := by decide
theorem rowErr (u : TypeId) (h : Tryd.prog.typeName? 3 u = some "*errors.errorString") : u = 133 :=
  typeName_ptr_named (nm := "errors.errorString") (by rw [star]; kernel_rfl) (by kernel_rfl) (by decide) u (by rw [star]; exact h)
theorem gRange : Tryd.prog.globalNamed "strconv.ErrRange" = some 5 := by kernel_rfl
theorem gSyntax : Tryd.prog.globalNamed "strconv.ErrSyntax" = some 4 := by kernel_rfl
theorem tRange : (Tryd.prog.globals[5]?).map (·.type) = some 52 := by kernel_rfl
theorem tSyntax : (Tryd.prog.globals[4]?).map (·.type) = some 52 := by kernel_rfl
theorem tPow : (Tryd.prog.globals[1]?).map (·.type) = some 117 := by kernel_rfl
theorem cPow : Tryd.prog.cellsOf 117 = 20 := by kernel_rfl
theorem cU64 : Tryd.prog.cellsOf 95 = 1 := by kernel_rfl
theorem cErr : Tryd.prog.cellsOf 135 = 1 := by kernel_rfl
theorem cStr : Tryd.prog.cellsOf 9 = 1 := by kernel_rfl
theorem plain7 : ∀ W, laidMetH Tryd.prog L7 W = laidMet Tryd.prog L7 W := fun W => MakeChecks.laidMetH_plain _ _ _ (by kernel_rfl)

theorem laidW_of {W : World} (hsh : W.ShapedOpen Tryd.prog) (hH : laidMetH Tryd.prog L7 W) : LaidW W := by
  rw [plain7] at hH
  have h3 := laidMet.tail (laidMet.tail hH)
  have hT : Lib.TabIs Tryd.prog W "internal/strconv.uint64pow10" .u64 Lib.pow10Tab :=
    Lib.tabIs_of_head (k := .u64) (zs := Lib.pow10Tab) pow10_named tPow Tryd.underlying117 Tryd.underlying95 cU64 cPow h3
  have h5 := laidMet.tail (laidMet.tail h3)
  obtain ⟨a0, _, hv0, _⟩ := laid_sentinel h5 gRange tRange Tryd.underlying52 rowErr Tryd.underlying133 Tryd.underlying135 rfl rfl Tryd.underlying9 cErr cStr
  obtain ⟨a1, _, hv1, _⟩ := laid_sentinel (laidMet.tail h5) gSyntax tSyntax Tryd.underlying52 rowErr Tryd.underlying133 Tryd.underlying135 rfl rfl Tryd.underlying9 cErr cStr
  have hm := cell_of_shapedOpen_int (P := Tryd.prog) (g := 0) (t := 3) (k := .i64) (zero := #[.int .i64 0]) hsh (of_decide_eq_true (by kernel_rfl)) (by kernel_rfl) rfl (by kernel_rfl) (by kernel_rfl) Tryd.underlying3
  exact ⟨hm, ⟨_, _, by simpa using World.var?_cell gSyntax hv1 0⟩, ⟨_, _, by simpa using World.var?_cell gRange hv0 0⟩, hT⟩

/-- The world of the witness. -/
noncomputable abbrev laidWorld (os : Os) : World := World.laidAll Tryd.prog os L7
set_option maxRecDepth 100000 in
theorem laid_met (os : Os) (args : Array Value) : laidMetH Tryd.prog L7 ((laidWorld os).forCall (fun _ _ => 0) ⟨#[], args, []⟩).memory := by
  rw [plain7]
  exact laidMet_laidAll _ (by kernel_rfl) (by kernel_rfl)
end Go.Proofs.YtfckjfoalpkpjaaDoor.Card
