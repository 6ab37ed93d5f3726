/- Texts of this claim, together: what the functions return, and what they say in plain words. -/
import Derived.Test.YtpnmmpfidiegcaaGreatDoorCards
import Derived.Test.YtpnmmpfidiegcaaGreatDoorTie
import Derived.Test.YtpnmmpfidiegcaaGreatDoorUC
import Derived.WalkKit
import Derived.ProofKit
import Derived.OpenShut
import Derived.ShutString
import Derived.ChangeOld
import Derived.Below
import Derived.SizedLaws
import Derived.Deep.DeepHandedRow
import Derived.Lib.LaidTab
import Derived.Stop.LaidErr
import Derived.Shelf.Vars
import Derived.Lay
section
namespace Go.Proofs.YtpnmmpfidiegcaaGreatDoor.Card
open Go.ChangeShapes Go.WideShapes Go.ChangeAt Go.RowKit
open Go.Proofs.YtpnmmpfidiegcaaGreatDoor.C (LaidW pow10_named)
def L7 : List (String × DataW Unit) := [("math/bits.deBruijn32tab", Rows.laid_math_bits_deBruijn32tab), ("math/bits.deBruijn64tab", Rows.laid_math_bits_deBruijn64tab), ("internal/strconv.uint64pow10", Rows.laid_internal_strconv_uint64pow10), ("unicode/utf8.acceptRanges", Rows.laid_unicode_utf8_acceptRanges), ("strconv.ErrRange", Rows.laid_strconv_ErrRange), ("strconv.ErrSyntax", Rows.laid_strconv_ErrSyntax), ("unicode/utf8.first", Rows.laid_unicode_utf8_first)]
theorem own : ownKnob Tryz.prog.godebug = none := by kernel_rfl
theorem star : "*" ++ "errors.errorString" = "*errors.errorString" := by decide
theorem rowErr (u : TypeId) (h : Tryz.prog.typeName? 3 u = some "*errors.errorString") : u = 163 :=
  typeName_ptr_named (nm := "errors.errorString") (by rw [star]; kernel_rfl) (by kernel_rfl) (by decide) u (by rw [star]; exact h)
theorem gRange : Tryz.prog.globalNamed "strconv.ErrRange" = some 4 := by kernel_rfl
theorem gSyntax : Tryz.prog.globalNamed "strconv.ErrSyntax" = some 3 := by kernel_rfl
theorem tRange : (Tryz.prog.globals[4]?).map (·.type) = some 85 := by kernel_rfl
theorem tSyntax : (Tryz.prog.globals[3]?).map (·.type) = some 85 := by kernel_rfl
theorem tPow : (Tryz.prog.globals[5]?).map (·.type) = some 167 := by kernel_rfl
theorem cPow : Tryz.prog.cellsOf 167 = 20 := by kernel_rfl
theorem cU64 : Tryz.prog.cellsOf 132 = 1 := by kernel_rfl
theorem cErr : Tryz.prog.cellsOf 165 = 1 := by kernel_rfl
theorem cStr : Tryz.prog.cellsOf 9 = 1 := by kernel_rfl
theorem plain7 : ∀ W, laidMetH Tryz.prog L7 W = laidMet Tryz.prog L7 W := fun W => MakeChecks.laidMetH_plain _ _ _ (by kernel_rfl)
theorem laidW_of {W : World} (hsh : W.ShapedOpen Tryz.prog) (hH : laidMetH Tryz.prog L7 W) : LaidW W := by
  rw [plain7] at hH
  have h3 := laidMet.tail (laidMet.tail hH)
  have hT : Lib.TabIs Tryz.prog W "internal/strconv.uint64pow10" .u64 Lib.pow10Tab :=
    Lib.tabIs_of_head (k := .u64) (zs := Lib.pow10Tab) pow10_named tPow Tryz.underlying167 Tryz.underlying132 cU64 cPow h3
  have h5 := laidMet.tail (laidMet.tail h3)
  obtain ⟨a0, _, hv0, _⟩ := laid_sentinel h5 gRange tRange Tryz.underlying85 rowErr Tryz.underlying163 Tryz.underlying165 rfl rfl Tryz.underlying9 cErr cStr
  obtain ⟨a1, _, hv1, _⟩ := laid_sentinel (laidMet.tail h5) gSyntax tSyntax Tryz.underlying85 rowErr Tryz.underlying163 Tryz.underlying165 rfl rfl Tryz.underlying9 cErr cStr
  have hm := cell_of_shapedOpen_int (P := Tryz.prog) (g := 0) (t := 3) (k := .i64) (zero := #[.int .i64 0]) hsh (of_decide_eq_true (by kernel_rfl)) (by kernel_rfl) rfl (by kernel_rfl) (by kernel_rfl) Tryz.underlying3
  exact ⟨hm, ⟨_, _, by simpa using World.var?_cell gSyntax hv1 0⟩, ⟨_, _, by simpa using World.var?_cell gRange hv0 0⟩, hT⟩
noncomputable abbrev laidWorld (os : Os) : World := World.laidAll Tryz.prog os L7
set_option maxRecDepth 100000 in
theorem laid_met (os : Os) (args : Array Value) : laidMetH Tryz.prog L7 ((laidWorld os).forCall (fun _ _ => 0) ⟨#[], args, []⟩).memory := by
  rw [plain7]
  exact laidMet_laidAll _ (by kernel_rfl) (by kernel_rfl)
end Go.Proofs.YtpnmmpfidiegcaaGreatDoor.Card
end
