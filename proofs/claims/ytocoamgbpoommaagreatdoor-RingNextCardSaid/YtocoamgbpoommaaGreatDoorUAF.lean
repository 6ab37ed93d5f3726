/- Texts of this claim, together: what the functions return, and what they say in plain words. -/
import Derived.Test.YtocoamgbpoommaaGreatDoorUAD
import Derived.Test.YtocoamgbpoommaaGreatDoorUAE
import Derived.Test.YtocoamgbpoommaaGreatDoorCards
import Derived.Test.YtocoamgbpoommaaGreatDoorTie
import Derived.Test.YtocoamgbpoommaaGreatDoorUD
import Derived.WalkKit
import Derived.ProofKit
import Derived.OpenShut
import Derived.ShutString
import Derived.ChangeOld
import Derived.Below
import Derived.SizedLaws
import Derived.Deep.DeepHandedRow
import Derived.Lib.LaidTab
import Derived.Stop.LaidErr
import Derived.Shelf.Vars
import Derived.Lay
section
/- Ring against the reference, in plain words. -/
namespace Go.Proofs.YtocoamgbpoommaaGreatDoor.Plain
open Go.Proofs.YtocoamgbpoommaaGreatDoor.C
open Go.RowKit Go.Proofs.YtocoamgbpoommaaGreatDoorW.PrintWords Go.Proofs.YtocoamgbpoommaaGreatDoorW.PrintLast Go.Proofs.YtocoamgbpoommaaGreatDoorW.PrintMore
set_option linter.unusedVariables false
set_option linter.unusedSimpArgs false

theorem awake_ok (k : Nat) (hk : 16000 ≤ k) : narcissuslaw08_awake.f k = some true := if_pos hk
theorem made_small {l : List (List Ins)} (h : Fine l) : ∀ e ∈ madeL (behind l), e.length ≤ 1000000 := fun e he => by have := (h.2.1 e he).1; omega
/-- The law of Ring. -/
theorem ringRings_plain (n : Int) : narcissuslaw08_RingRings.f 3000000 n = some true := by
  have haw := awake_ok 2999999 (by omega)
  unfold narcissuslaw08_RingRings.f
  by_cases hn : 1 ≤ n ∧ n ≤ 40
  · obtain ⟨m, rfl⟩ := Int.eq_ofNat_of_zero_le (show 0 ≤ n by omega)
    have h1 : 0 < m := by omega
    have h2 : m ≤ 40 := by omega
    obtain ⟨k', hk', e⟩ := ring_tells m h1 h2 2999999 (by omega)
    have hok := okp_turns m h1 h2
    have ht := refT_form hok (by rw [turns_length]; omega) 2999999 (by omega)
    rw [if_pos (by omega), decide_eq_true (by omega : (m : Int) ≤ 40), show (3000000 : Nat) = 2999999 + 1 from rfl, narcissuslaw08_RingRings.j0, if_pos rfl, refTurned_tells m h1 h2 2999999 (by omega), Option.bind_some, e]
    by_cases hf : Fine (turns m)
    · rw [ht.1 hf, Option.bind_some, if_pos rfl, together_yes hok (by rw [turns_length]; omega) (by rw [turns_length]; omega) hf k' (by omega), Option.bind_some, if_pos rfl]
      rw [sameL_yes _ (by unfold madeL behind; rw [List.length_map, List.length_map, turns_length]; omega) (made_small hf) 2999999 (by omega), Option.bind_some, if_pos rfl, haw]
      rfl
    · rw [ht.2 hf, Option.bind_some, if_neg (by decide), together_large hok (by rw [turns_length]; omega) (by rw [turns_length]; omega) hf k' (by omega), Option.bind_some, if_pos rfl]
      rw [sameL_yes [] (by simp) (fun p hp => by cases hp) 2999999 (by omega), Option.bind_some, if_pos rfl, haw]
      rfl
  · have hr := ring_arg n (by omega) 2999999 (by omega)
    have hj : narcissuslaw08_RingRings.j0 3000000 n 2 [] false = some true := by
      rw [show (3000000 : Nat) = 2999999 + 1 from rfl, narcissuslaw08_RingRings.j0, if_neg (by decide), hr, Option.bind_some, if_pos rfl, sameL_yes [] (by simp) (fun p hp => by cases hp) 2999999 (by omega), Option.bind_some, if_pos rfl, haw]
      rfl
    by_cases h1 : n ≥ 1
    · rw [if_pos h1, decide_eq_false (by omega : ¬ n ≤ 40), hj]
    · rw [if_neg h1, hj]
end Go.Proofs.YtocoamgbpoommaaGreatDoor.Plain
end
section
/- What a row of this seat lists gives what the texts ask of the library's variables; and a world in which all that is listed lies. -/
namespace Go.Proofs.YtocoamgbpoommaaGreatDoor.Card
open Go.ChangeShapes Go.WideShapes Go.ChangeAt Go.RowKit
open Go.Proofs.YtocoamgbpoommaaGreatDoor.C (LaidW pow10_named)

/-- The variables that each row of this seat lists. -/
def L7 : List (String × DataW Unit) := [("math/bits.deBruijn32tab", Rows.laid_math_bits_deBruijn32tab), ("math/bits.deBruijn64tab", Rows.laid_math_bits_deBruijn64tab), ("internal/strconv.uint64pow10", Rows.laid_internal_strconv_uint64pow10), ("unicode/utf8.acceptRanges", Rows.laid_unicode_utf8_acceptRanges), ("strconv.ErrRange", Rows.laid_strconv_ErrRange), ("strconv.ErrSyntax", Rows.laid_strconv_ErrSyntax), ("unicode/utf8.first", Rows.laid_unicode_utf8_first)]
theorem own : ownKnob Tryz.prog.godebug = none := by kernel_rfl
theorem laidOut : laidOutB Tryz.prog = true := by kernel_rfl
theorem star : "*" ++ "errors.errorString" = "*errors.errorString" := by decide
theorem rowErr (u : TypeId) (h : Tryz.prog.typeName? 3 u = some "*errors.errorString") : u = 192 :=
  typeName_ptr_named (nm := "errors.errorString") (by rw [star]; kernel_rfl) (by kernel_rfl) (by decide) u (by rw [star]; exact h)
theorem gRange : Tryz.prog.globalNamed "strconv.ErrRange" = some 4 := by kernel_rfl
theorem gSyntax : Tryz.prog.globalNamed "strconv.ErrSyntax" = some 3 := by kernel_rfl
theorem tRange : (Tryz.prog.globals[4]?).map (·.type) = some 112 := by kernel_rfl
theorem tSyntax : (Tryz.prog.globals[3]?).map (·.type) = some 112 := by kernel_rfl
theorem tPow : (Tryz.prog.globals[5]?).map (·.type) = some 196 := by kernel_rfl
theorem cPow : Tryz.prog.cellsOf 196 = 20 := by kernel_rfl
theorem cU64 : Tryz.prog.cellsOf 161 = 1 := by kernel_rfl
theorem cErr : Tryz.prog.cellsOf 194 = 1 := by kernel_rfl
theorem cStr : Tryz.prog.cellsOf 9 = 1 := by kernel_rfl
theorem plain7 : ∀ W, laidMetH Tryz.prog L7 W = laidMet Tryz.prog L7 W := fun W => MakeChecks.laidMetH_plain _ _ _ (by kernel_rfl)

theorem laidW_of {W : World} (hsh : W.ShapedOpen Tryz.prog) (hH : laidMetH Tryz.prog L7 W) : LaidW W := by
  rw [plain7] at hH
  have h3 := laidMet.tail (laidMet.tail hH)
  have hT : Lib.TabIs Tryz.prog W "internal/strconv.uint64pow10" .u64 Lib.pow10Tab :=
    Lib.tabIs_of_head (k := .u64) (zs := Lib.pow10Tab) pow10_named tPow Tryz.underlying196 Tryz.underlying161 cU64 cPow h3
  have h5 := laidMet.tail (laidMet.tail h3)
  obtain ⟨a0, _, hv0, _⟩ := laid_sentinel h5 gRange tRange Tryz.underlying112 rowErr Tryz.underlying192 Tryz.underlying194 rfl rfl Tryz.underlying9 cErr cStr
  obtain ⟨a1, _, hv1, _⟩ := laid_sentinel (laidMet.tail h5) gSyntax tSyntax Tryz.underlying112 rowErr Tryz.underlying192 Tryz.underlying194 rfl rfl Tryz.underlying9 cErr cStr
  have hm := cell_of_shapedOpen_int (P := Tryz.prog) (g := 0) (t := 3) (k := .i64) (zero := #[.int .i64 0]) hsh (of_decide_eq_true (by kernel_rfl)) (by kernel_rfl) rfl (by kernel_rfl) (by kernel_rfl) Tryz.underlying3
  exact ⟨hm, ⟨_, _, by simpa using World.var?_cell gSyntax hv1 0⟩, ⟨_, _, by simpa using World.var?_cell gRange hv0 0⟩, hT⟩

/-- The world of the witness. -/
noncomputable abbrev laidWorld (os : Os) : World := World.laidAll Tryz.prog os L7
set_option maxRecDepth 100000 in
theorem laid_met (os : Os) (args : Array Value) : laidMetH Tryz.prog L7 ((laidWorld os).forCall (fun _ _ => 0) ⟨#[], args, []⟩).memory := by
  rw [plain7]
  exact laidMet_laidAll _ (by kernel_rfl) (by kernel_rfl)
end Go.Proofs.YtocoamgbpoommaaGreatDoor.Card
end
