/- Texts of this claim, together: what the functions return, and what they say in plain words. -/
import Derived.Test.YtocoamgbpoommaaGreatDoorUN
import Derived.Test.YtocoamgbpoommaaGreatDoorUL
import Derived.Test.YtocoamgbpoommaaGreatDoorUP
import Derived.Test.YtocoamgbpoommaaGreatDoorUU
import Derived.Test.YtocoamgbpoommaaGreatDoorUB
import Derived.Test.YtocoamgbpoommaaGreatDoorUJ
section
namespace Go.Proofs.YtocoamgbpoommaaGreatDoor.Plain
open Go.Proofs.YtocoamgbpoommaaGreatDoor.C
open Go.RowKit Go.Proofs.YtocoamgbpoommaaGreatDoorW.PrintWords Go.Proofs.YtocoamgbpoommaaGreatDoorW.PrintLast Go.Proofs.YtocoamgbpoommaaGreatDoorW.PrintMore
set_option linter.unusedVariables false
set_option linter.unusedSimpArgs false
def beforeW : List (List UInt8) := [[104, 101, 97, 100, 32, 50, 32, 48], [116, 97, 105, 108, 32, 51, 32, 48], [115, 101, 116, 32, 48, 32, 48], [109, 111, 118, 101, 32, 52, 32, 50], [115, 101, 116, 32, 55, 32, 49, 48, 48], [106, 117, 109, 112, 32, 55, 32, 52], [104, 101, 97, 100, 32, 54, 32, 52], [99, 111, 110, 115, 32, 53, 32, 54, 32, 53], [116, 97, 105, 108, 32, 52, 32, 52], [106, 117, 109, 112, 32, 52, 32, 45, 51], [99, 111, 110, 115, 32, 56, 32, 55, 32, 50], [99, 111, 110, 115, 32, 56, 32, 49, 32, 56], [115, 101, 116, 32, 57, 32, 49, 48, 49, 49, 48, 48, 48], [115, 101, 116, 32, 49, 48, 32, 49, 49, 48, 49, 48, 48, 49, 48, 49, 49, 48, 48, 48], [106, 117, 109, 112, 32, 55, 32, 55], [104, 101, 97, 100, 32, 54, 32, 53], [99, 111, 110, 115, 32, 54, 32, 57, 32, 54], [99, 111, 110, 115, 32, 54, 32, 49, 48, 32, 54], [99, 111, 110, 115, 32, 54, 32, 56, 32, 54], [99, 111, 110, 115, 32, 48, 32, 54, 32, 48], [116, 97, 105, 108, 32, 53, 32, 53], [106, 117, 109, 112, 32, 53, 32, 45, 54], [99, 111, 110, 115, 32, 48, 32, 48, 32, 51], [115, 101, 116, 32, 50, 32, 48], [115, 101, 116, 32, 51, 32, 48], [115, 101, 116, 32, 54, 32, 48], [115, 101, 116, 32, 55, 32, 48], [115, 101, 116, 32, 56, 32, 48], [115, 101, 116, 32, 57, 32, 48], [115, 101, 116, 32, 49, 48, 32, 48]]
theorem each_one {s : ByteArray} {l : List ByteArray} {p : List Ins} {i : Ins} {r : Option (Option (List Ins))} (h : code_instr.f s = some (i, true)) (hp : p.length < 1000) (k : eachInstr l (p ++ [i]) = r) : eachInstr (s :: l) p = r := by
  rw [eachInstr, h, Option.bind_some, if_pos rfl, if_pos (by omega), k]
set_option maxRecDepth 100000 in
theorem before_each : eachInstr (beforeW.map bs) [] = some (some ringHead) := by
  refine each_one (i := ⟨3, 2, 0, 0, ⟨#[]⟩⟩) (by kernel_rfl) (by decide) ?_
  refine each_one (i := ⟨4, 3, 0, 0, ⟨#[]⟩⟩) (by kernel_rfl) (by decide) ?_
  refine each_one (i := ⟨0, 0, 0, 0, ⟨#[48]⟩⟩) (by kernel_rfl) (by decide) ?_
  refine each_one (i := ⟨1, 4, 2, 0, ⟨#[]⟩⟩) (by kernel_rfl) (by decide) ?_
  refine each_one (i := ⟨0, 7, 0, 0, ⟨#[49, 48, 48]⟩⟩) (by kernel_rfl) (by decide) ?_
  refine each_one (i := ⟨5, 7, 4, 0, ⟨#[]⟩⟩) (by kernel_rfl) (by decide) ?_
  refine each_one (i := ⟨3, 6, 4, 0, ⟨#[]⟩⟩) (by kernel_rfl) (by decide) ?_
  refine each_one (i := ⟨2, 5, 6, 5, ⟨#[]⟩⟩) (by kernel_rfl) (by decide) ?_
  refine each_one (i := ⟨4, 4, 4, 0, ⟨#[]⟩⟩) (by kernel_rfl) (by decide) ?_
  refine each_one (i := ⟨5, 4, -3, 0, ⟨#[]⟩⟩) (by kernel_rfl) (by decide) ?_
  refine each_one (i := ⟨2, 8, 7, 2, ⟨#[]⟩⟩) (by kernel_rfl) (by decide) ?_
  refine each_one (i := ⟨2, 8, 1, 8, ⟨#[]⟩⟩) (by kernel_rfl) (by decide) ?_
  refine each_one (i := ⟨0, 9, 0, 0, ⟨#[49, 48, 49, 49, 48, 48, 48]⟩⟩) (by kernel_rfl) (by decide) ?_
  refine each_one (i := ⟨0, 10, 0, 0, ⟨#[49, 49, 48, 49, 48, 48, 49, 48, 49, 49, 48, 48, 48]⟩⟩) (by kernel_rfl) (by decide) ?_
  refine each_one (i := ⟨5, 7, 7, 0, ⟨#[]⟩⟩) (by kernel_rfl) (by decide) ?_
  refine each_one (i := ⟨3, 6, 5, 0, ⟨#[]⟩⟩) (by kernel_rfl) (by decide) ?_
  refine each_one (i := ⟨2, 6, 9, 6, ⟨#[]⟩⟩) (by kernel_rfl) (by decide) ?_
  refine each_one (i := ⟨2, 6, 10, 6, ⟨#[]⟩⟩) (by kernel_rfl) (by decide) ?_
  refine each_one (i := ⟨2, 6, 8, 6, ⟨#[]⟩⟩) (by kernel_rfl) (by decide) ?_
  refine each_one (i := ⟨2, 0, 6, 0, ⟨#[]⟩⟩) (by kernel_rfl) (by decide) ?_
  refine each_one (i := ⟨4, 5, 5, 0, ⟨#[]⟩⟩) (by kernel_rfl) (by decide) ?_
  refine each_one (i := ⟨5, 5, -6, 0, ⟨#[]⟩⟩) (by kernel_rfl) (by decide) ?_
  refine each_one (i := ⟨2, 0, 0, 3, ⟨#[]⟩⟩) (by kernel_rfl) (by decide) ?_
  refine each_one (i := ⟨0, 2, 0, 0, ⟨#[48]⟩⟩) (by kernel_rfl) (by decide) ?_
  refine each_one (i := ⟨0, 3, 0, 0, ⟨#[48]⟩⟩) (by kernel_rfl) (by decide) ?_
  refine each_one (i := ⟨0, 6, 0, 0, ⟨#[48]⟩⟩) (by kernel_rfl) (by decide) ?_
  refine each_one (i := ⟨0, 7, 0, 0, ⟨#[48]⟩⟩) (by kernel_rfl) (by decide) ?_
  refine each_one (i := ⟨0, 8, 0, 0, ⟨#[48]⟩⟩) (by kernel_rfl) (by decide) ?_
  refine each_one (i := ⟨0, 9, 0, 0, ⟨#[48]⟩⟩) (by kernel_rfl) (by decide) ?_
  refine each_one (i := ⟨0, 10, 0, 0, ⟨#[48]⟩⟩) (by kernel_rfl) (by decide) ?_
  rfl
set_option maxRecDepth 100000 in
theorem before_split : ∃ l, strings_Split.f beforeB ⟨#[59, 32]⟩ = some l ∧ l = beforeW.map bs := by
  obtain ⟨l, h1, h2, _⟩ := split_tells beforeB ⟨#[59, 32]⟩ (by decide +kernel) (by decide)
  refine ⟨l, h1, ?_⟩
  have e : bl beforeB = joinS [59, 32] beforeW := by decide +kernel
  rw [e, show bl (⟨#[59, 32]⟩ : ByteArray) = [59, 32] from rfl, split_joinS 59 [32] beforeW (by decide) (by decide +kernel)] at h2
  rw [← h2, List.map_map]
  conv => lhs; rw [← List.map_id l]
  exact List.map_congr_left fun x _ => (bs_bl x).symm
set_option maxRecDepth 100000 in
theorem before_tells (k : Nat) (hk : 4010 ≤ k) : ring_before.f k = some (ringHead, 0) := by
  have hv : OKP ringHead := okp_iff.2 ⟨by decide, by decide +kernel, vi_ringHead⟩
  obtain ⟨l, hl, e⟩ := before_split
  unfold ring_before.f code_Parse.f
  rw [if_neg (by decide +kernel), if_neg (by decide +kernel), hl, Option.bind_some, e, before_each, Option.bind_some]
  simp only []
  rw [validp_yes hk hv]
  rfl
end Go.Proofs.YtocoamgbpoommaaGreatDoor.Plain
end
section
namespace Go.Proofs.YtocoamgbpoommaaGreatDoor.Plain
open Go.Proofs.YtocoamgbpoommaaGreatDoor.C
open Go.RowKit Go.Proofs.YtocoamgbpoommaaGreatDoorW.PrintWords Go.Proofs.YtocoamgbpoommaaGreatDoorW.PrintLast Go.Proofs.YtocoamgbpoommaaGreatDoorW.PrintMore
set_option linter.unusedVariables false
set_option linter.unusedSimpArgs false
theorem spec_tells {r : List Ins} {y : ByteArray} (hr : OKP r) (hy : ValidT y) (k : Nat) (hk : 4020 ≤ k) :
    (OKP (specHead y ++ r) → spec_Spec.f k r y = some (specHead y ++ r, 0)) ∧ (¬ OKP (specHead y ++ r) → spec_Spec.f k r y = some ([], 3)) := by
  obtain ⟨k, rfl⟩ : ∃ m, k = m + 1 := ⟨k - 1, by omega⟩
  have h4 := hr.1
  have e : spec_Spec.f (k + 1) r y = (code_Valid.f k (specHead y ++ r)).bind fun t9 => (if t9 = true then (some (specHead y ++ r, 0)) else (some (([] : List Ins), 3))) := by
    unfold spec_Spec.f
    rw [validp_yes (by omega) hr, Option.bind_some, if_pos rfl, valid_yes hy, Option.bind_some, show (!true) = false from rfl, spec_Spec.j0, if_neg (by decide), Option.bind_some]
    rw [if_pos (by simp only [List.length_cons, List.length_nil]; omega), Option.bind_some]
    rfl
  constructor
  · intro h; rw [e, validp_yes (by omega) h]; rfl
  · intro h; rw [e, validp_no (by omega) h]; rfl
theorem specAll_yes {y : ByteArray} (hy : ValidT y) (k : Nat) (hk : 4020 ≤ k) : ∀ l : List (List Ins), (∀ r ∈ l, OKP r ∧ OKP (specHead y ++ r)) → specAll k y l = some (0, l.map fun r => specHead y ++ r)
  | [], _ => rfl
  | r :: l, h => by
    obtain ⟨h1, h2⟩ := h r List.mem_cons_self
    rw [specAll, (spec_tells h1 hy k hk).1 h2, Option.bind_some, if_pos rfl, specAll_yes hy k hk l (fun x hx => h x (List.mem_cons_of_mem _ hx))]
    rfl
def madeL (rs : List (List Ins)) : List (List Ins) := rs.map fun r => specHead (bs (tabL rs)) ++ r
theorem validT_tab {rs : List (List Ins)} (h : GoodL rs) : ValidT (bs (tabL rs)) := by
  refine ⟨by rw [bs_size, tabL_length]; have := h.2; omega, ?_⟩
  rw [bl_bs]
  refine isT_lst _ fun s hs => ?_
  obtain ⟨e, he, rfl⟩ := List.mem_map.1 hs
  exact isT_codeL (okp_nice (h.1 e he))
def behind (l : List (List Ins)) : List (List Ins) := l.map fun p => ringHead ++ p
def Fine (l : List (List Ins)) : Prop := GoodL (behind l) ∧ GoodL (madeL (behind l))
theorem togMid_yes {rs : List (List Ins)} (hl : rs.length ≤ 1000) (h1 : GoodL rs) (h2 : GoodL (madeL rs)) (k : Nat) (hk : 6000 ≤ k) : togMid k rs = some (madeL rs, 0) := by
  unfold togMid
  rw [ringList_yes hl h1 k hk, Option.bind_some]
  simp only [if_true]
  rw [specAll_yes (validT_tab h1) k (by omega) rs (fun r hr => ⟨h1.1 r hr, h2.1 _ (List.mem_map.2 ⟨r, hr, rfl⟩)⟩), Option.bind_some]
  unfold togEnd
  have hm : (madeL rs).length ≤ 1000 := by unfold madeL; rw [List.length_map]; exact hl
  simp only [if_true]
  rw [show (rs.map fun r => specHead (bs (tabL rs)) ++ r) = madeL rs from rfl, ringList_yes hm h2 k hk]
  rfl
theorem validAll_yes (k : Nat) (hk : 4010 ≤ k) : ∀ l : List (List Ins), (∀ p ∈ l, OKP p) → validAll k l = some true
  | [], _ => rfl
  | p :: l, h => by rw [validAll, validp_yes hk (h p List.mem_cons_self), Option.bind_some, if_pos rfl, validAll_yes k hk l fun x hx => h x (List.mem_cons_of_mem _ hx)]
theorem together_yes {l : List (List Ins)} (h : ∀ p ∈ l, OKP p) (h1 : 1 ≤ l.length) (h2 : l.length ≤ 40) (hf : Fine l) (k : Nat) (hk : 6000 ≤ k) : ring_Together.f k l = some (madeL (behind l), 0) := by
  unfold ring_Together.f
  rw [validAll_yes k (by omega) l h, Option.bind_some, if_pos rfl, if_neg (by omega), if_neg (by omega), before_tells k (by omega), Option.bind_some, if_pos ⟨by decide, by decide, fun p hp => by have := (h p hp).1; omega⟩]
  exact togMid_yes (by unfold behind; rw [List.length_map]; omega) hf.1 hf.2 k hk
end Go.Proofs.YtocoamgbpoommaaGreatDoor.Plain
end
section
namespace Go.Proofs.YtocoamgbpoommaaGreatDoor.C
open Go.RowKit Go.Proofs.YtocoamgbpoommaaGreatDoorW.PrintWords Go.Proofs.YtocoamgbpoommaaGreatDoorW.PrintLast Go.Proofs.YtocoamgbpoommaaGreatDoorW.PrintMore
attribute [local go_sem] max2_int min2_int max_two min_two max_three min_three max_four min_four
set_option linter.unusedVariables false
set_option linter.unusedSimpArgs false
def narcissusref08_head.f (a0 : Int) (a1 : Int) : Option (Int × Int × Int × Int × ByteArray) := some (3, a0, a1, 0, (⟨#[]⟩ : ByteArray))
end Go.Proofs.YtocoamgbpoommaaGreatDoor.C
end
section
namespace Go.Proofs.YtocoamgbpoommaaGreatDoor.C
open Go.RowKit Go.Proofs.YtocoamgbpoommaaGreatDoorW.PrintWords Go.Proofs.YtocoamgbpoommaaGreatDoorW.PrintLast Go.Proofs.YtocoamgbpoommaaGreatDoorW.PrintMore
attribute [local go_sem] max2_int min2_int max_two min_two max_three min_three max_four min_four
set_option linter.unusedVariables false
set_option linter.unusedSimpArgs false
def narcissusref08_tail.f (a0 : Int) (a1 : Int) : Option (Int × Int × Int × Int × ByteArray) := some (4, a0, a1, 0, (⟨#[]⟩ : ByteArray))
end Go.Proofs.YtocoamgbpoommaaGreatDoor.C
end
section
namespace Go.Proofs.YtocoamgbpoommaaGreatDoor.C
open Go.RowKit Go.Proofs.YtocoamgbpoommaaGreatDoorW.PrintWords Go.Proofs.YtocoamgbpoommaaGreatDoorW.PrintLast Go.Proofs.YtocoamgbpoommaaGreatDoorW.PrintMore
attribute [local go_sem] max2_int min2_int max_two min_two max_three min_three max_four min_four
set_option linter.unusedVariables false
set_option linter.unusedSimpArgs false
theorem eqA72 (d : Nat) (w : World) (x0 y0 : Int) (x1 y1 : Int) (x2 y2 : Int) (x3 y3 : Int) (x4 y4 : ByteArray) :
    (Op.equalIn (d + 2) 72 (.agg #[.int .i64 x0, .int .i64 x1, .int .i64 x2, .int .i64 x3, .string x4]) (.agg #[.int .i64 y0, .int .i64 y1, .int .i64 y2, .int .i64 y3, .string y4])).run Tryz.prog w = .ok (x0 == y0 && (x1 == y1 && (x2 == y2 && (x3 == y3 && (x4.toList == y4.toList))))) w := by
  refine eqA_of Tryz.underlying72 (by kernel_rfl) ?_
  refine eqf_cons (by rfl) (by go_simp; rfl) (by go_simp; rfl) (by go_simp) ?_
  refine eqf_cons (by rfl) (by go_simp; rfl) (by go_simp; rfl) (by go_simp) ?_
  refine eqf_cons (by rfl) (by go_simp; rfl) (by go_simp; rfl) (by go_simp) ?_
  refine eqf_cons (by rfl) (by go_simp; rfl) (by go_simp; rfl) (by go_simp) ?_
  exact eqf_last (by rfl) (by go_simp; rfl) (by go_simp; rfl) (by go_simp)
end Go.Proofs.YtocoamgbpoommaaGreatDoor.C
end
section
namespace Go.Proofs.YtocoamgbpoommaaGreatDoor.Plain
open Go.Proofs.YtocoamgbpoommaaGreatDoor.C
open Go.RowKit Go.Proofs.YtocoamgbpoommaaGreatDoorW.PrintWords Go.Proofs.YtocoamgbpoommaaGreatDoorW.PrintLast Go.Proofs.YtocoamgbpoommaaGreatDoorW.PrintMore
set_option linter.unusedVariables false
set_option linter.unusedSimpArgs false
theorem refTrees_tells {p : List Ins} (hp : p.length ≤ 4000) (hf : Fits p) (k : Nat) (hk : 4010 ≤ k) : narcissusref02_Trees.f k p = some ((sizes p : Nat) : Int) := by
  unfold narcissusref02_Trees.f
  have := trees_l p hp hf p.length k 0 0 rfl (Nat.zero_le _) (Nat.zero_le _) (by omega)
  rw [show ((0 : Nat) : Int) = 0 from rfl] at this
  rw [this, List.drop_zero, Nat.zero_add]
theorem refCoded_yes {p : List Ins} (h : OKP p) (k : Nat) (hk : 8100 ≤ k) : narcissusref07_Coded.f k p = some (bs (codeL p), decide ((codeL p).length ≤ 2000000)) := by
  have hs : sizes p ≤ 2000000 := h.2.1
  unfold narcissusref07_Coded.f narcissusref04_Fits.f
  rw [if_pos (by have := h.1; omega), refTrees_tells h.1 (okp_fits h) k (by omega), Option.bind_some, Option.bind_some, if_pos (by simpa using (by omega : ((sizes p : Nat) : Int) ≤ 2000000)), refCode_yes hk h, Option.bind_some, bs_size]
  congr 2
  exact decide_eq_decide.2 (by omega)
theorem refCoded_no {p : List Ins} (hv : VI p) (h : ¬ OKP p) (k : Nat) (hk : 8100 ≤ k) : narcissusref07_Coded.f k p = some (⟨#[]⟩, false) := by
  unfold narcissusref07_Coded.f narcissusref04_Fits.f
  by_cases h4 : p.length ≤ 4000
  · have hs : ¬ sizes p ≤ 2000000 := fun hs => h (okp_iff.2 ⟨h4, hs, hv⟩)
    rw [if_pos (by omega), refTrees_tells h4 (vi_fits hv) k (by omega), Option.bind_some, Option.bind_some, if_neg (by simpa using (by omega : ¬ ((sizes p : Nat) : Int) ≤ 2000000))]
  · rw [if_neg (by omega), Option.bind_some, if_neg (by decide)]
theorem refSpec_tells (r : List Ins) (y : ByteArray) (h : r.length ≤ 1000000) : narcissusref05_Spec.f r y = some (specHead y ++ r) := by
  unfold narcissusref05_Spec.f narcissusref05_head.f
  rw [Option.bind_some, if_pos (by simp only [List.length_cons, List.length_nil]; omega)]
  rfl
end Go.Proofs.YtocoamgbpoommaaGreatDoor.Plain
end
section
namespace Go.Proofs.YtocoamgbpoommaaGreatDoor.Plain
open Go.Proofs.YtocoamgbpoommaaGreatDoor.C
set_option linter.unusedVariables false
set_option linter.unusedSimpArgs false
abbrev zz : Ins := ⟨0, 0, 0, 0, ⟨#[]⟩⟩
def lit (l : List UInt8) : ByteArray := ⟨l.toArray⟩
def mk (a0 a1 a2 a3 a4 a5 a6 a7 a8 a9 a10 : Tr) : Rg
  | 0 => a0 | 1 => a1 | 2 => a2 | 3 => a3 | 4 => a4 | 5 => a5 | 6 => a6 | 7 => a7 | 8 => a8 | 9 => a9 | 10 => a10 | _ => .nil
section
variable (a0 a1 a2 a3 a4 a5 a6 a7 a8 a9 a10 v : Tr)
theorem init_mk : init a0 = mk a0 .nil .nil .nil .nil .nil .nil .nil .nil .nil .nil := by
  funext i; unfold init mk
  match i with
  | 0 | 1 | 2 | 3 | 4 | 5 | 6 | 7 | 8 | 9 | 10 => rfl
  | n + 11 => simp
theorem up0 : upd (mk a0 a1 a2 a3 a4 a5 a6 a7 a8 a9 a10) 0 v = mk v a1 a2 a3 a4 a5 a6 a7 a8 a9 a10 := by
  funext i; match i with | 0 | 1 | 2 | 3 | 4 | 5 | 6 | 7 | 8 | 9 | 10 | n + 11 => rfl
theorem up1 : upd (mk a0 a1 a2 a3 a4 a5 a6 a7 a8 a9 a10) 1 v = mk a0 v a2 a3 a4 a5 a6 a7 a8 a9 a10 := by
  funext i; match i with | 0 | 1 | 2 | 3 | 4 | 5 | 6 | 7 | 8 | 9 | 10 | n + 11 => rfl
theorem up2 : upd (mk a0 a1 a2 a3 a4 a5 a6 a7 a8 a9 a10) 2 v = mk a0 a1 v a3 a4 a5 a6 a7 a8 a9 a10 := by
  funext i; match i with | 0 | 1 | 2 | 3 | 4 | 5 | 6 | 7 | 8 | 9 | 10 | n + 11 => rfl
theorem up3 : upd (mk a0 a1 a2 a3 a4 a5 a6 a7 a8 a9 a10) 3 v = mk a0 a1 a2 v a4 a5 a6 a7 a8 a9 a10 := by
  funext i; match i with | 0 | 1 | 2 | 3 | 4 | 5 | 6 | 7 | 8 | 9 | 10 | n + 11 => rfl
theorem up4 : upd (mk a0 a1 a2 a3 a4 a5 a6 a7 a8 a9 a10) 4 v = mk a0 a1 a2 a3 v a5 a6 a7 a8 a9 a10 := by
  funext i; match i with | 0 | 1 | 2 | 3 | 4 | 5 | 6 | 7 | 8 | 9 | 10 | n + 11 => rfl
theorem up5 : upd (mk a0 a1 a2 a3 a4 a5 a6 a7 a8 a9 a10) 5 v = mk a0 a1 a2 a3 a4 v a6 a7 a8 a9 a10 := by
  funext i; match i with | 0 | 1 | 2 | 3 | 4 | 5 | 6 | 7 | 8 | 9 | 10 | n + 11 => rfl
theorem up6 : upd (mk a0 a1 a2 a3 a4 a5 a6 a7 a8 a9 a10) 6 v = mk a0 a1 a2 a3 a4 a5 v a7 a8 a9 a10 := by
  funext i; match i with | 0 | 1 | 2 | 3 | 4 | 5 | 6 | 7 | 8 | 9 | 10 | n + 11 => rfl
theorem up7 : upd (mk a0 a1 a2 a3 a4 a5 a6 a7 a8 a9 a10) 7 v = mk a0 a1 a2 a3 a4 a5 a6 v a8 a9 a10 := by
  funext i; match i with | 0 | 1 | 2 | 3 | 4 | 5 | 6 | 7 | 8 | 9 | 10 | n + 11 => rfl
theorem up8 : upd (mk a0 a1 a2 a3 a4 a5 a6 a7 a8 a9 a10) 8 v = mk a0 a1 a2 a3 a4 a5 a6 a7 v a9 a10 := by
  funext i; match i with | 0 | 1 | 2 | 3 | 4 | 5 | 6 | 7 | 8 | 9 | 10 | n + 11 => rfl
theorem up9 : upd (mk a0 a1 a2 a3 a4 a5 a6 a7 a8 a9 a10) 9 v = mk a0 a1 a2 a3 a4 a5 a6 a7 a8 v a10 := by
  funext i; match i with | 0 | 1 | 2 | 3 | 4 | 5 | 6 | 7 | 8 | 9 | 10 | n + 11 => rfl
theorem up10 : upd (mk a0 a1 a2 a3 a4 a5 a6 a7 a8 a9 a10) 10 v = mk a0 a1 a2 a3 a4 a5 a6 a7 a8 a9 v := by
  funext i; match i with | 0 | 1 | 2 | 3 | 4 | 5 | 6 | 7 | 8 | 9 | 10 | n + 11 => rfl
end
theorem ex_set (a : Int) (t : ByteArray) (r : Rg) : exec ⟨0, a, 0, 0, t⟩ r = some (1, upd r a.toNat (dec (bl t))) := rfl
theorem ex_move (a b : Int) (r : Rg) : exec ⟨1, a, b, 0, ⟨#[]⟩⟩ r = some (1, upd r a.toNat (r b.toNat)) := rfl
theorem ex_cons (a b c : Int) (r : Rg) (h : 1 + (r b.toNat).size + (r c.toNat).size ≤ 2000000) : exec ⟨2, a, b, c, ⟨#[]⟩⟩ r = some (1, upd r a.toNat (.cons (r b.toNat) (r c.toNat))) := by
  show (if 2000000 < 1 + (r b.toNat).size + (r c.toNat).size then none else some ((1 : Int), upd r a.toNat (.cons (r b.toNat) (r c.toNat)))) = _
  rw [if_neg (by omega)]
theorem ex_head (a b : Int) (r : Rg) : exec ⟨3, a, b, 0, ⟨#[]⟩⟩ r = some (1, upd r a.toNat (r b.toNat).hd) := rfl
theorem ex_tail (a b : Int) (r : Rg) : exec ⟨4, a, b, 0, ⟨#[]⟩⟩ r = some (1, upd r a.toNat (r b.toNat).tl) := rfl
theorem ex_jump (a b : Int) (r : Rg) : exec ⟨5, a, b, 0, ⟨#[]⟩⟩ r = some (if (r a.toNat).isNil = true then 1 else b, r) := rfl
theorem go1 {p : List Ins} {a a1 b : Int} {m : Nat} {r s t : Rg} (x : Ins) {d : Int} (hlt : a < (p.length : Int)) (hx : p.getD a.toNat zz = x) (he : exec x r = some (d, s)) (hd : a + d = a1) (h : Goes p m a1 s b t) : Goes p (m + 1) a r b t := by
  rw [Nat.add_comm m 1]
  subst hd
  exact (Goes.step (by omega) (by rw [hx]; exact he)).trans h
def t100 : Tr := .cons .nil .nil
def tSet (y : Tr) : Tr := .cons .nil (.cons t100 y)
def tPut : Tr := itemT ⟨2, 0, 1, 0, ⟨#[]⟩⟩
def tClear : Tr := itemT ⟨0, 1, 0, 0, ⟨#[48]⟩⟩
def cellT (y c : Tr) : Tr := .cons (tSet y) (.cons tPut (.cons tClear c))
theorem lstT_size : ∀ l : List Tr, (lstT l).size = 1 + (l.map fun t => t.size + 1).sum
  | [] => rfl
  | t :: l => by simp [lstT, Tr.size, lstT_size l]; omega
section
variable {P : List Ins} {y : ByteArray} (H : ∀ i, i < 33 → P.getD i zz = (specHead y ++ ringHead).getD i zz) (hlen : 33 ≤ P.length)
include H hlen
theorem loop_one (a0 a2 a3 a6 a7 : Tr) : ∀ (cs ds : List Tr) (a6 : Tr), (lstT cs).size + (lstT ds).size ≤ 2000000 →
    ∃ a6', Goes P (4 * cs.length + 1) 12 (mk a0 .nil a2 a3 (lstT cs) (lstT ds) a6 a7 .nil .nil .nil) 13 (mk a0 .nil a2 a3 .nil (lstT (cs.reverse ++ ds)) a6' a7 .nil .nil .nil) := by
  intro cs
  induction cs with
  | nil =>
    intro ds a6 hz
    refine ⟨a6, ?_⟩
    refine go1 ⟨5, 4, -3, 0, ⟨#[]⟩⟩ (by omega) (H 12 (by decide)) (ex_jump 4 (-3) _) (a1 := 13) rfl (Goes.refl _ _ _)
  | cons c cs ih =>
    intro ds a6 hz
    have hz' : 1 + c.size + (lstT cs).size + (lstT ds).size ≤ 2000000 := hz
    have := Tr.size_pos (lstT cs)
    obtain ⟨b6, hb⟩ := ih (c :: ds) c (by show _ + (1 + c.size + (lstT ds).size) ≤ _; omega)
    refine ⟨b6, ?_⟩
    rw [show 4 * (c :: cs).length + 1 = (4 * cs.length + 1) + 1 + 1 + 1 + 1 from by simp; omega]
    refine go1 ⟨5, 4, -3, 0, ⟨#[]⟩⟩ (by omega) (H 12 (by decide)) (ex_jump 4 (-3) _) (a1 := 9) rfl ?_
    refine go1 ⟨3, 6, 4, 0, ⟨#[]⟩⟩ (by omega) (H 9 (by decide)) (ex_head 6 4 _) (a1 := 10) rfl ?_
    refine go1 ⟨2, 5, 6, 5, ⟨#[]⟩⟩ (by omega) (H 10 (by decide)) (ex_cons 5 6 5 _ (by show 1 + c.size + (lstT ds).size ≤ _; omega)) (a1 := 11) rfl ?_
    refine go1 ⟨4, 4, 4, 0, ⟨#[]⟩⟩ (by omega) (H 11 (by decide)) (ex_tail 4 4 _) (a1 := 12) rfl ?_
    have e : ∀ v1 v2 v3, upd (upd (upd (mk a0 .nil a2 a3 (lstT (c :: cs)) (lstT ds) a6 a7 .nil .nil .nil) 6 v1) 5 v2) 4 v3 = mk a0 .nil a2 a3 v3 v2 v1 a7 .nil .nil .nil := fun v1 v2 v3 => by rw [up6, up5, up4]
    rw [List.reverse_cons, List.append_assoc]
    exact (congrArg (fun r => Goes P (4 * cs.length + 1) 12 r 13 _) (e _ _ _)).mpr hb
theorem loop_two (Y a2 a3 a7 : Tr) : ∀ (cs : List Tr) (ds : List Tr) (a6 : Tr), (lstT (cs.map (cellT Y))).size + (lstT ds).size ≤ 2000000 →
    ∃ a6', Goes P (7 * cs.length + 1) 24 (mk (lstT ds) .nil a2 a3 .nil (lstT cs) a6 a7 (tSet Y) tClear tPut) 25 (mk (lstT ((cs.map (cellT Y)).reverse ++ ds)) .nil a2 a3 .nil .nil a6' a7 (tSet Y) tClear tPut) := by
  intro cs
  induction cs with
  | nil =>
    intro ds a6 hz
    refine ⟨a6, ?_⟩
    refine go1 ⟨5, 5, -6, 0, ⟨#[]⟩⟩ (by omega) (H 24 (by decide)) (ex_jump 5 (-6) _) (a1 := 25) rfl (Goes.refl _ _ _)
  | cons c cs ih =>
    intro ds a6 hz
    have hz' : 1 + (cellT Y c).size + (lstT (cs.map (cellT Y))).size + (lstT ds).size ≤ 2000000 := hz
    have hc : (cellT Y c).size = 1 + (tSet Y).size + (1 + tPut.size + (1 + tClear.size + c.size)) := rfl
    have := Tr.size_pos (lstT (cs.map (cellT Y)))
    obtain ⟨b6, hb⟩ := ih (cellT Y c :: ds) (cellT Y c) (by show _ + (1 + (cellT Y c).size + (lstT ds).size) ≤ _; omega)
    refine ⟨b6, ?_⟩
    rw [show 7 * (c :: cs).length + 1 = (7 * cs.length + 1) + 1 + 1 + 1 + 1 + 1 + 1 + 1 from by simp; omega]
    refine go1 ⟨5, 5, -6, 0, ⟨#[]⟩⟩ (by omega) (H 24 (by decide)) (ex_jump 5 (-6) _) (a1 := 18) rfl ?_
    refine go1 ⟨3, 6, 5, 0, ⟨#[]⟩⟩ (by omega) (H 18 (by decide)) (ex_head 6 5 _) (a1 := 19) rfl ?_
    refine go1 ⟨2, 6, 9, 6, ⟨#[]⟩⟩ (by omega) (H 19 (by decide)) (ex_cons 6 9 6 _ (by show 1 + tClear.size + c.size ≤ _; omega)) (a1 := 20) rfl ?_
    refine go1 ⟨2, 6, 10, 6, ⟨#[]⟩⟩ (by omega) (H 20 (by decide)) (ex_cons 6 10 6 _ (by show 1 + tPut.size + (1 + tClear.size + c.size) ≤ _; omega)) (a1 := 21) rfl ?_
    refine go1 ⟨2, 6, 8, 6, ⟨#[]⟩⟩ (by omega) (H 21 (by decide)) (ex_cons 6 8 6 _ (by show 1 + (tSet Y).size + (1 + tPut.size + (1 + tClear.size + c.size)) ≤ _; omega)) (a1 := 22) rfl ?_
    refine go1 ⟨2, 0, 6, 0, ⟨#[]⟩⟩ (by omega) (H 22 (by decide)) (ex_cons 0 6 0 _ (by show 1 + (cellT Y c).size + (lstT ds).size ≤ _; omega)) (a1 := 23) rfl ?_
    refine go1 ⟨4, 5, 5, 0, ⟨#[]⟩⟩ (by omega) (H 23 (by decide)) (ex_tail 5 5 _) (a1 := 24) rfl ?_
    have e : ∀ v1 v2 v3 v4 v5 v6, upd (upd (upd (upd (upd (upd (mk (lstT ds) .nil a2 a3 .nil (lstT (c :: cs)) a6 a7 (tSet Y) tClear tPut) 6 v1) 6 v2) 6 v3) 6 v4) 0 v5) 5 v6 = mk v5 .nil a2 a3 .nil v6 v4 a7 (tSet Y) tClear tPut := fun v1 v2 v3 v4 v5 v6 => by rw [up6, up6, up6, up6, up0, up5]
    rw [List.map_cons, List.reverse_cons, List.append_assoc]
    exact (congrArg (fun r => Goes P (7 * cs.length + 1) 24 r 25 _) (e _ _ _ _ _ _)).mpr hb
theorem ring_prefix (cs : List Tr) (hy : dec (bl y) = lstT cs) (x : Tr) (hne : cs ≠ []) (hz : 1 + (lstT (cs.map (cellT (lstT cs)))).size + x.size ≤ 2000000) :
    Goes P (24 + 11 * cs.length) 0 (init x) 33 (init (.cons (lstT (cs.map (cellT (lstT cs)))) x)) := by
  obtain ⟨c0, l0, rfl⟩ : ∃ c l, cs = c :: l := by cases cs with | nil => exact absurd rfl hne | cons c l => exact ⟨c, l, rfl⟩
  generalize hcs : c0 :: l0 = cs at *
  have hsz : (lstT cs).size + 12 ≤ (lstT (cs.map (cellT (lstT cs)))).size := by
    have h1 : (lstT (cs.map (cellT (lstT cs)))).size = 1 + (cellT (lstT cs) c0).size + (lstT (l0.map (cellT (lstT cs)))).size := by rw [← hcs]; rfl
    have h2 : (cellT (lstT cs) c0).size = 1 + (1 + 1 + (1 + t100.size + (lstT cs).size)) + (1 + tPut.size + (1 + tClear.size + c0.size)) := rfl
    have h3 : tPut.size = 13 := rfl
    have h4 : tClear.size = 7 := rfl
    omega
  have hx := Tr.size_pos x
  obtain ⟨b6, hb⟩ := loop_one H hlen Tr.nil (lstT cs) x .nil t100 cs [] .nil (by show _ + 1 ≤ _; omega)
  rw [List.append_nil] at hb
  have hrev : (lstT (cs.reverse.map (cellT (lstT cs)))).size = (lstT (cs.map (cellT (lstT cs)))).size := by
    rw [lstT_size, lstT_size, List.map_reverse, List.map_reverse, List.sum_reverse]
  obtain ⟨d6, hd⟩ := loop_two H hlen (lstT cs) (lstT cs) x t100 cs.reverse [] b6 (by rw [hrev]; show _ + 1 ≤ _; omega)
  rw [List.append_nil, List.map_reverse, List.reverse_reverse] at hd
  rw [init_mk, init_mk]
  have hn : 24 + 11 * cs.length = ((((7 * cs.reverse.length + 1) + 8) + 5) + (4 * cs.length + 1)) + 1 + 1 + 1 + 1 + 1 + 1 + 1 + 1 + 1 := by rw [List.length_reverse]; omega
  rw [hn]
  refine go1 ⟨0, 1, 0, 0, y⟩ (by omega) (H 0 (by decide)) (ex_set 1 y _) (a1 := 1) rfl ?_
  rw [show ((1 : Int).toNat) = 1 from rfl, up1, hy]
  refine go1 ⟨2, 0, 1, 0, ⟨#[]⟩⟩ (by omega) (H 1 (by decide)) (ex_cons 0 1 0 _ (by show 1 + (lstT cs).size + x.size ≤ _; omega)) (a1 := 2) rfl ?_
  rw [show ((0 : Int).toNat) = 0 from rfl, up0]
  refine go1 ⟨0, 1, 0, 0, ⟨#[48]⟩⟩ (by omega) (H 2 (by decide)) (ex_set 1 _ _) (a1 := 3) rfl ?_
  rw [show ((1 : Int).toNat) = 1 from rfl, up1]
  refine go1 ⟨3, 2, 0, 0, ⟨#[]⟩⟩ (by omega) (H 3 (by decide)) (ex_head 2 0 _) (a1 := 4) rfl ?_
  rw [show ((2 : Int).toNat) = 2 from rfl, up2]
  refine go1 ⟨4, 3, 0, 0, ⟨#[]⟩⟩ (by omega) (H 4 (by decide)) (ex_tail 3 0 _) (a1 := 5) rfl ?_
  rw [show ((3 : Int).toNat) = 3 from rfl, up3]
  refine go1 ⟨0, 0, 0, 0, ⟨#[48]⟩⟩ (by omega) (H 5 (by decide)) (ex_set 0 _ _) (a1 := 6) rfl ?_
  rw [show ((0 : Int).toNat) = 0 from rfl, up0]
  refine go1 ⟨1, 4, 2, 0, ⟨#[]⟩⟩ (by omega) (H 6 (by decide)) (ex_move 4 2 _) (a1 := 7) rfl ?_
  rw [show ((4 : Int).toNat) = 4 from rfl, up4]
  refine go1 ⟨0, 7, 0, 0, ⟨#[49, 48, 48]⟩⟩ (by omega) (H 7 (by decide)) (ex_set 7 _ _) (a1 := 8) rfl ?_
  rw [show ((7 : Int).toNat) = 7 from rfl, up7]
  refine go1 ⟨5, 7, 4, 0, ⟨#[]⟩⟩ (by omega) (H 8 (by decide)) (ex_jump 7 4 _) (a1 := 12) rfl ?_
  rw [Nat.add_comm]
  refine hb.trans ?_
  refine go1 ⟨2, 8, 7, 2, ⟨#[]⟩⟩ (by omega) (H 13 (by decide)) (ex_cons 8 7 2 _ (by show 1 + 3 + (lstT cs).size ≤ _; omega)) (a1 := 14) rfl ?_
  rw [show ((8 : Int).toNat) = 8 from rfl, up8]
  refine go1 ⟨2, 8, 1, 8, ⟨#[]⟩⟩ (by omega) (H 14 (by decide)) (ex_cons 8 1 8 _ (by show 1 + 1 + (1 + 3 + (lstT cs).size) ≤ _; omega)) (a1 := 15) rfl ?_
  rw [show ((8 : Int).toNat) = 8 from rfl, up8]
  refine go1 ⟨0, 9, 0, 0, ⟨#[49, 48, 49, 49, 48, 48, 48]⟩⟩ (by omega) (H 15 (by decide)) (ex_set 9 _ _) (a1 := 16) rfl ?_
  rw [show ((9 : Int).toNat) = 9 from rfl, up9]
  refine go1 ⟨0, 10, 0, 0, ⟨#[49, 49, 48, 49, 48, 48, 49, 48, 49, 49, 48, 48, 48]⟩⟩ (by omega) (H 16 (by decide)) (ex_set 10 _ _) (a1 := 17) rfl ?_
  rw [show ((10 : Int).toNat) = 10 from rfl, up10]
  refine go1 ⟨5, 7, 7, 0, ⟨#[]⟩⟩ (by omega) (H 17 (by decide)) (ex_jump 7 7 _) (a1 := 24) rfl ?_
  refine Goes.trans (n := 8) (m := 7 * cs.reverse.length + 1) hd ?_
  refine go1 ⟨2, 0, 0, 3, ⟨#[]⟩⟩ (by omega) (H 25 (by decide)) (ex_cons 0 0 3 _ hz) (a1 := 26) rfl ?_
  rw [show ((0 : Int).toNat) = 0 from rfl, up0]
  refine go1 ⟨0, 2, 0, 0, ⟨#[48]⟩⟩ (by omega) (H 26 (by decide)) (ex_set 2 _ _) (a1 := 27) rfl ?_
  rw [show ((2 : Int).toNat) = 2 from rfl, up2]
  refine go1 ⟨0, 3, 0, 0, ⟨#[48]⟩⟩ (by omega) (H 27 (by decide)) (ex_set 3 _ _) (a1 := 28) rfl ?_
  rw [show ((3 : Int).toNat) = 3 from rfl, up3]
  refine go1 ⟨0, 6, 0, 0, ⟨#[48]⟩⟩ (by omega) (H 28 (by decide)) (ex_set 6 _ _) (a1 := 29) rfl ?_
  rw [show ((6 : Int).toNat) = 6 from rfl, up6]
  refine go1 ⟨0, 7, 0, 0, ⟨#[48]⟩⟩ (by omega) (H 29 (by decide)) (ex_set 7 _ _) (a1 := 30) rfl ?_
  rw [show ((7 : Int).toNat) = 7 from rfl, up7]
  refine go1 ⟨0, 8, 0, 0, ⟨#[48]⟩⟩ (by omega) (H 30 (by decide)) (ex_set 8 _ _) (a1 := 31) rfl ?_
  rw [show ((8 : Int).toNat) = 8 from rfl, up8]
  refine go1 ⟨0, 9, 0, 0, ⟨#[48]⟩⟩ (by omega) (H 31 (by decide)) (ex_set 9 _ _) (a1 := 32) rfl ?_
  rw [show ((9 : Int).toNat) = 9 from rfl, up9]
  refine go1 ⟨0, 10, 0, 0, ⟨#[48]⟩⟩ (by omega) (H 32 (by decide)) (ex_set 10 _ _) (a1 := 33) rfl ?_
  rw [show ((10 : Int).toNat) = 10 from rfl, up10]
  exact Goes.refl _ _ _
end
end Go.Proofs.YtocoamgbpoommaaGreatDoor.Plain
end
section
namespace Go.Proofs.YtocoamgbpoommaaGreatDoor.Plain
open Go.Proofs.YtocoamgbpoommaaGreatDoor.C
set_option linter.unusedVariables false
set_option linter.unusedSimpArgs false
theorem codeT_spec (y : ByteArray) (r : List Ins) : codeT (specHead y ++ r) = cellT (dec (bl y)) (codeT r) := rfl
theorem tab_dec (rs : List (List Ins)) (h : ∀ r ∈ rs, ∀ x ∈ r, Nice x) : dec (tabL rs) = lstT (rs.map codeT) := by
  have : (lstT (rs.map codeT)).enc = tabL rs := by
    rw [lstT_enc, tabL, List.map_map]
    congr 1
    exact List.map_congr_left fun r hr => codeT_enc (h r hr)
  rw [← this, dec_enc]
theorem made_codes (rs : List (List Ins)) (h : ∀ r ∈ rs, ∀ x ∈ r, Nice x) : (madeL rs).map codeT = (rs.map codeT).map (cellT (lstT (rs.map codeT))) := by
  rw [madeL, List.map_map, List.map_map]
  refine List.map_congr_left fun r _ => ?_
  show codeT (specHead (bs (tabL rs)) ++ r) = cellT _ (codeT r)
  rw [codeT_spec, bl_bs, tab_dec rs h]
theorem ring_begins (ps : List (List Ins)) (h : ∀ p ∈ ps, ∀ x ∈ ringHead ++ p, Nice x) (p : List Ins) (hp : p ∈ ps) (x : Tr)
    (hz : 1 + (lstT ((madeL (ps.map fun p => ringHead ++ p)).map codeT)).size + x.size ≤ 2000000) :
    Goes (specHead (bs (tabL (ps.map fun p => ringHead ++ p))) ++ ringHead ++ p) (24 + 11 * ps.length) 0 (init x) 33 (init (.cons (lstT ((madeL (ps.map fun p => ringHead ++ p)).map codeT)) x)) := by
  have hn : ∀ r ∈ ps.map (fun p => ringHead ++ p), ∀ x ∈ r, Nice x := by
    intro r hr
    obtain ⟨q, hq, rfl⟩ := List.mem_map.1 hr
    exact h q hq
  rw [made_codes _ hn] at hz ⊢
  have hl : ((ps.map fun p => ringHead ++ p).map codeT).length = ps.length := by simp
  rw [← hl]
  refine ring_prefix (P := specHead (bs (tabL (ps.map fun p => ringHead ++ p))) ++ ringHead ++ p) (y := bs (tabL (ps.map fun p => ringHead ++ p))) ?_ ?_ _ ?_ x ?_ hz
  · intro i hi
    rw [List.getD_eq_getElem?_getD, List.getElem?_append_left (by simp [specHead, ringHead]; omega), ← List.getD_eq_getElem?_getD]
  · simp [specHead, ringHead]
  · rw [bl_bs, tab_dec _ hn]
  · intro e
    have := congrArg List.length e
    rw [hl] at this
    have h0 := List.length_pos_of_mem hp
    rw [List.length_nil] at this
    omega
def turnP (n j : Nat) : List Ins := ⟨3, 0, 0, 0, ⟨#[]⟩⟩ :: (List.replicate ((j + 1) % n) ⟨4, 0, 0, 0, ⟨#[]⟩⟩ ++ [⟨3, 0, 0, 0, ⟨#[]⟩⟩])
theorem up_init (a v : Tr) : upd (init a) 0 v = init v := by
  funext i
  unfold upd init
  split <;> rfl
theorem tails_go {P : List Ins} (m : Nat) (a : Nat) (H : ∀ i, i < m → P.getD (a + i) zz = ⟨4, 0, 0, 0, ⟨#[]⟩⟩) (hl : a + m ≤ P.length) : ∀ (ts : List Tr), m ≤ ts.length →
    Goes P m (a : Int) (init (lstT ts)) ((a + m : Nat) : Int) (init (lstT (ts.drop m))) := by
  induction m generalizing a with
  | zero => intro ts _; exact Goes.refl _ _ _
  | succ m ih =>
    intro ts hm
    obtain ⟨t, l, rfl⟩ : ∃ t l, ts = t :: l := by cases ts with | nil => simp at hm | cons t l => exact ⟨t, l, rfl⟩
    refine go1 ⟨4, 0, 0, 0, ⟨#[]⟩⟩ (by omega) (by rw [Int.toNat_natCast]; exact H 0 (by omega)) (ex_tail 0 0 _) (a1 := ((a + 1 : Nat) : Int)) (by omega) ?_
    rw [show ((0 : Int).toNat) = 0 from rfl, up_init]
    have := ih (a + 1) (fun i hi => by rw [Nat.add_assoc, Nat.add_comm 1 i]; exact H (i + 1) (by omega)) (by omega) l (by simpa using hm)
    rw [show a + 1 + m = a + (m + 1) from by omega] at this
    exact this
theorem turn_run (n j : Nat) (ts : List Tr) (x : Tr) (hn : 0 < n) (hl : ts.length = n) (k : Nat) (hk : (j + 1) % n + 2 ≤ k) :
    runM (turnP n j) (.cons (lstT ts) x) k = (ts.getD ((j + 1) % n) .nil, (j + 1) % n + 2, 0) := by
  obtain ⟨k, rfl⟩ : ∃ d, k = ((j + 1) % n + 2) + d := ⟨k - ((j + 1) % n + 2), by omega⟩
  have hlt : (j + 1) % n < n := Nat.mod_lt _ hn
  generalize hm : (j + 1) % n = m at *
  have hP : turnP n j = ⟨3, 0, 0, 0, ⟨#[]⟩⟩ :: (List.replicate m ⟨4, 0, 0, 0, ⟨#[]⟩⟩ ++ [⟨3, 0, 0, 0, ⟨#[]⟩⟩]) := by rw [turnP, hm]
  have hlen : (turnP n j).length = m + 2 := by rw [hP]; simp
  have g : Goes (turnP n j) (m + 2) 0 (init (.cons (lstT ts) x)) ((m + 2 : Nat) : Int) (init (ts.getD m .nil)) := by
    rw [show m + 2 = (m + 1) + 1 from rfl]
    refine go1 ⟨3, 0, 0, 0, ⟨#[]⟩⟩ (by omega) (by rw [hP]; rfl) (ex_head 0 0 _) (a1 := ((1 : Nat) : Int)) rfl ?_
    rw [show ((0 : Int).toNat) = 0 from rfl, up_init]
    show Goes _ _ _ (init (lstT ts)) _ _
    refine Goes.trans (tails_go m 1 (fun i hi => ?_) (by omega) ts (by omega)) ?_
    · rw [hP, Nat.add_comm 1 i, List.getD_cons_succ, List.getD_eq_getElem?_getD, List.getElem?_append_left (by simpa using hi), List.getElem?_replicate, if_pos hi]; rfl
    · have hdrop : ts.drop m = ts.getD m .nil :: ts.drop (m + 1) := by
        rw [List.drop_eq_getElem_cons (by omega), List.getD_eq_getElem?_getD, List.getElem?_eq_getElem (by omega)]; rfl
      refine go1 ⟨3, 0, 0, 0, ⟨#[]⟩⟩ (by omega) ?_ (ex_head 0 0 _) (a1 := ((m + 2 : Nat) : Int)) (by omega) ?_
      · rw [hP, Int.toNat_natCast, Nat.add_comm 1 m, List.getD_cons_succ, List.getD_eq_getElem?_getD, List.getElem?_append_right (by simp)]; simp
      · rw [show ((0 : Int).toNat) = 0 from rfl, up_init, hdrop]
        exact Goes.refl _ _ _
  have e : after (turnP n j) k ((m + 2 : Nat) : Int) (init (ts.getD m .nil)) = (((m + 2 : Nat) : Int), init (ts.getD m .nil), 0, true) := by
    cases k with
    | zero => rfl
    | succ k => rw [after, if_pos (by rw [hlen])]
  unfold runM
  rw [g k, e]
  simp only [hlen, if_true, Nat.zero_add]
  rfl
end Go.Proofs.YtocoamgbpoommaaGreatDoor.Plain
end
