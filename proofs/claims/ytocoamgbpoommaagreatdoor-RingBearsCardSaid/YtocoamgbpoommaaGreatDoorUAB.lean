/- Texts of this claim, together: what the functions return, and what they say in plain words. -/
import Derived.Test.YtocoamgbpoommaaGreatDoorUB
import Derived.Test.YtocoamgbpoommaaGreatDoorUU
import Derived.Test.YtocoamgbpoommaaGreatDoorUX
import Derived.Test.YtocoamgbpoommaaGreatDoorUY
import Derived.Test.YtocoamgbpoommaaGreatDoorUV
import Derived.Test.YtocoamgbpoommaaGreatDoorUAA
import Derived.Test.YtocoamgbpoommaaGreatDoorUF
section
namespace Go.Proofs.YtocoamgbpoommaaGreatDoor.C
open Go.RowKit Go.Proofs.YtocoamgbpoommaaGreatDoorW.PrintWords Go.Proofs.YtocoamgbpoommaaGreatDoorW.PrintLast Go.Proofs.YtocoamgbpoommaaGreatDoorW.PrintMore
attribute [local go_sem] max2_int min2_int max_two min_two max_three min_three max_four min_four
set_option linter.unusedVariables false
set_option linter.unusedSimpArgs false
def narcissusref07_told.f (l0 : List (S72)) (a1 : Bool) : Option ((List (S72)) × Int) := if a1 = true then (some (l0, 0)) else (some (([] : List (S72)), 3))
end Go.Proofs.YtocoamgbpoommaaGreatDoor.C
end
section
namespace Go.Proofs.YtocoamgbpoommaaGreatDoor.C
open Go.RowKit Go.Proofs.YtocoamgbpoommaaGreatDoorW.PrintWords Go.Proofs.YtocoamgbpoommaaGreatDoorW.PrintLast Go.Proofs.YtocoamgbpoommaaGreatDoorW.PrintMore
attribute [local go_sem] max2_int min2_int max_two min_two max_three min_three max_four min_four
set_option linter.unusedVariables false
set_option linter.unusedSimpArgs false
def narcissusref07_head.f (a0 : Int) (a1 : Int) : Option (Int × Int × Int × Int × ByteArray) := some (3, a0, a1, 0, (⟨#[]⟩ : ByteArray))
end Go.Proofs.YtocoamgbpoommaaGreatDoor.C
end
section
namespace Go.Proofs.YtocoamgbpoommaaGreatDoor.C
open Go.RowKit Go.Proofs.YtocoamgbpoommaaGreatDoorW.PrintWords Go.Proofs.YtocoamgbpoommaaGreatDoorW.PrintLast Go.Proofs.YtocoamgbpoommaaGreatDoorW.PrintMore
attribute [local go_sem] max2_int min2_int max_two min_two max_three min_three max_four min_four
set_option linter.unusedVariables false
set_option linter.unusedSimpArgs false
def narcissusref07_tail.f (a0 : Int) (a1 : Int) : Option (Int × Int × Int × Int × ByteArray) := some (4, a0, a1, 0, (⟨#[]⟩ : ByteArray))
end Go.Proofs.YtocoamgbpoommaaGreatDoor.C
end
section
namespace Go.Proofs.YtocoamgbpoommaaGreatDoor.C
open Go.RowKit Go.Proofs.YtocoamgbpoommaaGreatDoorW.PrintWords Go.Proofs.YtocoamgbpoommaaGreatDoorW.PrintLast Go.Proofs.YtocoamgbpoommaaGreatDoorW.PrintMore
attribute [local go_sem] max2_int min2_int max_two min_two max_three min_three max_four min_four
set_option linter.unusedVariables false
set_option linter.unusedSimpArgs false
def narcissusref07_set.f (a0 : Int) (a1 : ByteArray) : Option (Int × Int × Int × Int × ByteArray) := some (0, a0, 0, 0, a1)
end Go.Proofs.YtocoamgbpoommaaGreatDoor.C
end
section
namespace Go.Proofs.YtocoamgbpoommaaGreatDoor.C
open Go.RowKit Go.Proofs.YtocoamgbpoommaaGreatDoorW.PrintWords Go.Proofs.YtocoamgbpoommaaGreatDoorW.PrintLast Go.Proofs.YtocoamgbpoommaaGreatDoorW.PrintMore
attribute [local go_sem] max2_int min2_int max_two min_two max_three min_three max_four min_four
set_option linter.unusedVariables false
set_option linter.unusedSimpArgs false
def narcissusref07_cons.f (a0 : Int) (a1 : Int) (a2 : Int) : Option (Int × Int × Int × Int × ByteArray) := some (2, a0, a1, a2, (⟨#[]⟩ : ByteArray))
end Go.Proofs.YtocoamgbpoommaaGreatDoor.C
end
section
namespace Go.Proofs.YtocoamgbpoommaaGreatDoor.C
open Go.RowKit Go.Proofs.YtocoamgbpoommaaGreatDoorW.PrintWords Go.Proofs.YtocoamgbpoommaaGreatDoorW.PrintLast Go.Proofs.YtocoamgbpoommaaGreatDoorW.PrintMore
attribute [local go_sem] max2_int min2_int max_two min_two max_three min_three max_four min_four
set_option linter.unusedVariables false
set_option linter.unusedSimpArgs false
def narcissusref07_Behind.l0 : Nat → List (S72) → List (S72) → Int → Option ((List (S72)))
 | 0, _, _, _ => none
 | k + 1, x0, x3, x4 => if x4 ≤ 6 then ((narcissusref07_set.f x4 (⟨#[48]⟩ : ByteArray)).bind fun bt59 => (if x3.length < 2932031007402 then (narcissusref07_Behind.l0 k x0 (x3 ++ [(⟨bt59.1, bt59.2.1, bt59.2.2.1, bt59.2.2.2.1, bt59.2.2.2.2⟩ : S72)]) (wrap64 (x4 + 1))) else (none))) else (if x3.length + x0.length < 2932031007402 then (some (x3 ++ x0)) else (none))
def narcissusref07_Behind.f (k : Nat) (l0 : List (S72)) : Option ((List (S72))) := (narcissusref07_head.f 2 0).bind fun bt1 => ((narcissusref07_tail.f 3 0).bind fun bt6 => ((narcissusref07_set.f 4 (⟨#[49, 48, 48]⟩ : ByteArray)).bind fun bt11 => ((narcissusref07_cons.f 4 4 2).bind fun bt16 => ((narcissusref07_cons.f 4 1 4).bind fun bt21 => ((narcissusref07_set.f 5 (⟨#[49, 48, 49, 49, 48, 48, 48]⟩ : ByteArray)).bind fun bt26 => ((narcissusref07_cons.f 5 5 2).bind fun bt31 => ((narcissusref07_set.f 6 (⟨#[49, 49, 48, 49, 48, 48, 49, 48, 49, 49, 48, 48, 48]⟩ : ByteArray)).bind fun bt36 => ((narcissusref07_cons.f 5 6 5).bind fun bt41 => ((narcissusref07_cons.f 5 4 5).bind fun bt46 => ((narcissusref07_cons.f 0 5 3).bind fun bt51 => (narcissusref07_Behind.l0 k l0 (([(⟨bt1.1, bt1.2.1, bt1.2.2.1, bt1.2.2.2.1, bt1.2.2.2.2⟩ : S72), (⟨bt6.1, bt6.2.1, bt6.2.2.1, bt6.2.2.2.1, bt6.2.2.2.2⟩ : S72), (⟨bt11.1, bt11.2.1, bt11.2.2.1, bt11.2.2.2.1, bt11.2.2.2.2⟩ : S72), (⟨bt16.1, bt16.2.1, bt16.2.2.1, bt16.2.2.2.1, bt16.2.2.2.2⟩ : S72), (⟨bt21.1, bt21.2.1, bt21.2.2.1, bt21.2.2.2.1, bt21.2.2.2.2⟩ : S72), (⟨bt26.1, bt26.2.1, bt26.2.2.1, bt26.2.2.2.1, bt26.2.2.2.2⟩ : S72), (⟨bt31.1, bt31.2.1, bt31.2.2.1, bt31.2.2.2.1, bt31.2.2.2.2⟩ : S72), (⟨bt36.1, bt36.2.1, bt36.2.2.1, bt36.2.2.2.1, bt36.2.2.2.2⟩ : S72), (⟨bt41.1, bt41.2.1, bt41.2.2.1, bt41.2.2.2.1, bt41.2.2.2.2⟩ : S72), (⟨bt46.1, bt46.2.1, bt46.2.2.1, bt46.2.2.2.1, bt46.2.2.2.2⟩ : S72), (⟨bt51.1, bt51.2.1, bt51.2.2.1, bt51.2.2.2.1, bt51.2.2.2.2⟩ : S72)] : List (S72))) 2)))))))))))
end Go.Proofs.YtocoamgbpoommaaGreatDoor.C
end
section
namespace Go.Proofs.YtocoamgbpoommaaGreatDoor.C
open Go.RowKit Go.Proofs.YtocoamgbpoommaaGreatDoorW.PrintWords Go.Proofs.YtocoamgbpoommaaGreatDoorW.PrintLast Go.Proofs.YtocoamgbpoommaaGreatDoorW.PrintMore
attribute [local go_sem] max2_int min2_int max_two min_two max_three min_three max_four min_four
set_option linter.unusedVariables false
set_option linter.unusedSimpArgs false
def narcissusref07_Know.f (k : Nat) (l0 : List (S72)) : Option ((List (S72)) × Bool) := (narcissusref07_Behind.f k l0).bind fun t1 => ((narcissusref07_Coded.f k t1).bind fun bt4 => (if bt4.2 = true then ((narcissusref05_Spec.f t1 bt4.1).bind fun t6 => ((narcissusref07_Coded.f k t6).bind fun bt9 => (if bt9.2 = true then (some (t6, true)) else (some (([] : List (S72)), false))))) else (some (([] : List (S72)), false))))
end Go.Proofs.YtocoamgbpoommaaGreatDoor.C
end
section
namespace Go.Proofs.YtocoamgbpoommaaGreatDoor.C
open Go.RowKit Go.Proofs.YtocoamgbpoommaaGreatDoorW.PrintWords Go.Proofs.YtocoamgbpoommaaGreatDoorW.PrintLast Go.Proofs.YtocoamgbpoommaaGreatDoorW.PrintMore
attribute [local go_sem] max2_int min2_int max_two min_two max_three min_three max_four min_four
set_option linter.unusedVariables false
set_option linter.unusedSimpArgs false
def narcissusref07_Made.f (k : Nat) (l0 : List (S72)) : Option ((List (S72)) × Int) := (narcissusref04_Fits.f k l0).bind fun t1 => (if t1 = true then ((narcissusref07_Know.f k l0).bind fun bt2 => ((narcissusref07_told.f bt2.1 bt2.2).bind fun bt6 => (some (bt6.1, bt6.2)))) else (some (([] : List (S72)), 3)))
end Go.Proofs.YtocoamgbpoommaaGreatDoor.C
end
section
namespace Go.Proofs.YtocoamgbpoommaaGreatDoor.Plain
open Go.Proofs.YtocoamgbpoommaaGreatDoor.C
open Go.RowKit Go.Proofs.YtocoamgbpoommaaGreatDoorW.PrintWords Go.Proofs.YtocoamgbpoommaaGreatDoorW.PrintLast Go.Proofs.YtocoamgbpoommaaGreatDoorW.PrintMore
set_option linter.unusedVariables false
set_option linter.unusedSimpArgs false
theorem vi_knowHead : VI knowHead := fun j hj => by
  have h := vi_of_B knowHead knowHead 16 0 (by decide +kernel) j hj
  rw [Nat.zero_add] at h
  exact h
def iPut : List Ins := [⟨2, 0, 1, 0, ⟨#[]⟩⟩]
def iClear : List Ins := [⟨0, 1, 0, 0, ⟨#[48]⟩⟩]
theorem okp_put : OKP iPut := okp_iff.2 ⟨by decide, by decide, fun j hj => by
  have h := vi_of_B iPut iPut 1 0 (by decide +kernel) j hj
  rw [Nat.zero_add] at h
  exact h⟩
theorem okp_clear : OKP iClear := okp_iff.2 ⟨by decide, by decide, fun j hj => by
  have h := vi_of_B iClear iClear 1 0 (by decide +kernel) j hj
  rw [Nat.zero_add] at h
  exact h⟩
theorem put_code : bs (codeL iPut) = ⟨#[49, 49, 49, 48, 49, 48, 48, 49, 48, 49, 49, 48, 48, 48, 48]⟩ := by decide +kernel
theorem clear_code : bs (codeL iClear) = ⟨#[49, 49, 48, 49, 49, 48, 48, 48, 48]⟩ := by decide +kernel
theorem clear_tells (k : Nat) (hk : 10 ≤ k) : know_Clear.f k 2 6 = some [⟨0, 2, 0, 0, ⟨#[48]⟩⟩, ⟨0, 3, 0, 0, ⟨#[48]⟩⟩, ⟨0, 4, 0, 0, ⟨#[48]⟩⟩, ⟨0, 5, 0, 0, ⟨#[48]⟩⟩, ⟨0, 6, 0, 0, ⟨#[48]⟩⟩] := by
  obtain ⟨k, rfl⟩ : ∃ m, k = m + 6 := ⟨k - 6, by omega⟩
  unfold know_Clear.f
  simp [know_Clear.l0, wrap64]
theorem knowBefore_tells (k : Nat) (hk : 4010 ≤ k) : know_before.f k = some knowHead := by
  have h1 := code_yes hk okp_put
  have h2 := code_yes hk okp_clear
  rw [if_neg (by decide +kernel), put_code] at h1
  rw [if_neg (by decide +kernel), clear_code] at h2
  unfold know_before.f
  rw [show ([⟨2, 0, 1, 0, (⟨#[]⟩ : ByteArray)⟩] : List Ins) = iPut from rfl, h1, Option.bind_some, show ([⟨0, 1, 0, 0, (⟨#[48]⟩ : ByteArray)⟩] : List Ins) = iClear from rfl, h2, clear_tells k (by omega)]
  clear h1 h2 hk k
  show (_ : Option (List Ins)) = some knowHead
  kernel_rfl
theorem join_tells (q : List Ins) (hq : q.length ≤ 1000000) (k : Nat) (hk : 4020 ≤ k) : ∃ v, know_join.f k [knowHead, q] = some (knowHead ++ q, v) ∧ (v = true ↔ OKP (knowHead ++ q)) := by
  obtain ⟨k, rfl⟩ : ∃ m, k = m + 3 := ⟨k - 3, by omega⟩
  obtain ⟨v, e, hv⟩ := validp_tells (knowHead ++ q) k (by omega)
  refine ⟨v, ?_, hv⟩
  have hl : knowHead.length = 16 := rfl
  unfold know_join.f
  show know_join.l0 (k + 2 + 1) [] [knowHead, q] 2 0 = _
  rw [know_join.l0, if_pos (by decide), if_pos (by decide), if_pos (by simp), show rd_L3 [knowHead, q] 0 = knowHead from rfl, if_pos (by rw [hl]; simp), show wrap64 (0 + 1) = 1 from by decide +kernel, show k + 2 = k + 1 + 1 from rfl,
    know_join.l0, if_pos (by decide), if_pos (by decide), if_pos (by simp), show rd_L3 [knowHead, q] 1 = q from rfl, if_pos (by rw [List.nil_append, hl]; omega), show wrap64 (1 + 1) = 2 from by decide +kernel, know_join.l0, if_neg (by decide), List.nil_append, e]
  rfl
def madeK (q : List Ins) : List Ins := specHead (bs (codeL (knowHead ++ q))) ++ (knowHead ++ q)
def FineK (q : List Ins) : Prop := (OKP (knowHead ++ q) ∧ (codeL (knowHead ++ q)).length ≤ 2000000) ∧ OKP (madeK q) ∧ (codeL (madeK q)).length ≤ 2000000
theorem validT_code {p : List Ins} (h : OKP p) (hz : (codeL p).length ≤ 2000000) : ValidT (bs (codeL p)) := ⟨by rw [bs_size]; exact hz, by rw [bl_bs]; exact isT_codeL (okp_nice h)⟩
theorem know_yes {q : List Ins} (hq : OKP q) (hf : FineK q) (k : Nat) (hk : 4030 ≤ k) : know_Know.f k q = some (madeK q, 0) := by
  obtain ⟨v, e, hv⟩ := join_tells q (by have := hq.1; omega) k (by omega)
  obtain ⟨⟨h1, h2⟩, h3, h4⟩ := hf
  unfold know_Know.f
  rw [validp_yes (by omega) hq, Option.bind_some, if_pos rfl, knowBefore_tells k (by omega), Option.bind_some, e, Option.bind_some, if_pos (hv.2 h1), code_yes (by omega) h1, if_neg (by omega), Option.bind_some, if_pos rfl, (spec_tells h1 (validT_code h1 h2) k (by omega)).1 h3, Option.bind_some, if_pos rfl,
    show specHead (bs (codeL (knowHead ++ q))) ++ (knowHead ++ q) = madeK q from rfl, code_yes (by omega) h3, if_neg (by omega), Option.bind_some, if_pos rfl]
theorem know_large {q : List Ins} (hq : OKP q) (hf : ¬ FineK q) (k : Nat) (hk : 4030 ≤ k) : know_Know.f k q = some ([], 3) := by
  obtain ⟨v, e, hv⟩ := join_tells q (by have := hq.1; omega) k (by omega)
  unfold know_Know.f
  rw [validp_yes (by omega) hq, Option.bind_some, if_pos rfl, knowBefore_tells k (by omega), Option.bind_some, e, Option.bind_some]
  by_cases h1 : OKP (knowHead ++ q)
  · rw [if_pos (hv.2 h1), code_yes (by omega) h1]
    by_cases h2 : 2000000 < (codeL (knowHead ++ q)).length
    · rw [if_pos h2, Option.bind_some, if_neg (by decide)]
    · rw [if_neg h2, Option.bind_some, if_pos rfl]
      have hs := spec_tells h1 (validT_code h1 (by omega)) k (by omega)
      by_cases h3 : OKP (madeK q)
      · rw [hs.1 h3, Option.bind_some, if_pos rfl, show specHead (bs (codeL (knowHead ++ q))) ++ (knowHead ++ q) = madeK q from rfl, code_yes (by omega) h3]
        by_cases h4 : 2000000 < (codeL (madeK q)).length
        · rw [if_pos h4, Option.bind_some, if_neg (by decide)]
        · exact absurd ⟨⟨h1, by omega⟩, h3, by omega⟩ hf
      · rw [hs.2 h3, Option.bind_some, if_neg (by decide)]
  · have : v = false := by
      cases v with
      | true => exact absurd (hv.1 rfl) h1
      | false => rfl
    rw [this, if_neg (by simp)]
theorem refBehind_tells (q : List Ins) (hq : q.length ≤ 1000000) (k : Nat) (hk : 10 ≤ k) : narcissusref07_Behind.f k q = some (knowHead ++ q) := by
  obtain ⟨k, rfl⟩ : ∃ m, k = m + 6 := ⟨k - 6, by omega⟩
  unfold narcissusref07_Behind.f
  simp only [narcissusref07_head.f, narcissusref07_tail.f, narcissusref07_set.f, narcissusref07_cons.f, Option.bind_some]
  simp [narcissusref07_Behind.l0, wrap64, narcissusref07_set.f, knowHead]
  omega
theorem fits4_tells {q : List Ins} (hv : VI q) (k : Nat) (hk : 4010 ≤ k) : ∃ v, narcissusref04_Fits.f k q = some v ∧ (v = true ↔ OKP q) := by
  unfold narcissusref04_Fits.f
  by_cases h4 : q.length ≤ 4000
  · rw [if_pos (by omega), refTrees_tells h4 (vi_fits hv) k (by omega), Option.bind_some]
    refine ⟨_, rfl, ?_⟩
    rw [okp_iff]
    simp only [decide_eq_true_eq]
    exact ⟨fun h => ⟨h4, by omega, hv⟩, fun h => by have := h.2.1; omega⟩
  · rw [if_neg (by omega)]
    exact ⟨false, rfl, fun h => (by cases h), fun h => absurd h.1 h4⟩
theorem refMade_tells {q : List Ins} (hv : VI q) (hq : q.length ≤ 1000000) (k : Nat) (hk : 8110 ≤ k) :
    (OKP q ∧ FineK q → narcissusref07_Made.f k q = some (madeK q, 0)) ∧ (¬ (OKP q ∧ FineK q) → narcissusref07_Made.f k q = some ([], 3)) := by
  obtain ⟨v, e, hf⟩ := fits4_tells hv k (by omega)
  have hb := vi_append vi_knowHead hv
  unfold narcissusref07_Made.f narcissusref07_Know.f
  rw [e, Option.bind_some, refBehind_tells q hq k (by omega), Option.bind_some]
  by_cases h0 : OKP q
  · rw [if_pos (hf.2 h0)]
    by_cases h1 : OKP (knowHead ++ q)
    · rw [refCoded_yes h1 k (by omega), Option.bind_some]
      by_cases h2 : (codeL (knowHead ++ q)).length ≤ 2000000
      · rw [if_pos (by simpa using h2), refSpec_tells _ _ (by have := h1.1; omega), Option.bind_some, show specHead (bs (codeL (knowHead ++ q))) ++ (knowHead ++ q) = madeK q from rfl]
        by_cases h3 : OKP (madeK q)
        · rw [refCoded_yes h3 k (by omega), Option.bind_some]
          by_cases h4 : (codeL (madeK q)).length ≤ 2000000
          · rw [if_pos (by simpa using h4)]
            exact ⟨fun _ => rfl, fun h => absurd ⟨h0, ⟨h1, h2⟩, h3, h4⟩ h⟩
          · rw [if_neg (by simpa using h4)]
            exact ⟨fun h => absurd h.2.2.2 h4, fun _ => rfl⟩
        · rw [refCoded_no (show VI (madeK q) from vi_append (vi_specHead (validT_code h1 h2)) hb) h3 k (by omega), Option.bind_some, if_neg (by decide)]
          exact ⟨fun h => absurd h.2.2.1 h3, fun _ => rfl⟩
      · rw [if_neg (by simpa using h2)]
        exact ⟨fun h => absurd h.2.1.2 h2, fun _ => rfl⟩
    · rw [refCoded_no hb h1 k (by omega), Option.bind_some, if_neg (by decide)]
      exact ⟨fun h => absurd h.2.1.1 h1, fun _ => rfl⟩
  · have : v = false := by
      cases v with
      | true => exact absurd (hf.1 rfl) h0
      | false => rfl
    rw [this, if_neg (by decide)]
    exact ⟨fun h => absurd h.1 h0, fun _ => rfl⟩
end Go.Proofs.YtocoamgbpoommaaGreatDoor.Plain
end
section
namespace Go.Proofs.YtocoamgbpoommaaGreatDoor.C
open Go.RowKit Go.Proofs.YtocoamgbpoommaaGreatDoorW.PrintWords Go.Proofs.YtocoamgbpoommaaGreatDoorW.PrintLast Go.Proofs.YtocoamgbpoommaaGreatDoorW.PrintMore
attribute [local go_sem] max2_int min2_int max_two min_two max_three min_three max_four min_four
set_option linter.unusedVariables false
set_option linter.unusedSimpArgs false
def ring_Bearer.f (k : Nat) (l0 : List (S72)) : Option ((List (S72)) × Int) := (code_Regs.f k l0).bind fun bt1 => (if bt1.2 = 0 then (if bt1.1 > 31 then (some (([] : List (S72)), 8)) else ((some (([(⟨3, bt1.1, 0, 0, (⟨#[]⟩ : ByteArray)⟩ : S72), (⟨4, 0, 0, 0, (⟨#[]⟩ : ByteArray)⟩ : S72)] : List (S72)) : List (S72))).bind fun y3 => (if y3.length + l0.length < 2932031007402 then ((some (y3 ++ l0 : List (S72))).bind fun y6 => (if y6.length < 2932031007402 then ((some (y6 ++ [(⟨2, 0, bt1.1, 0, (⟨#[]⟩ : ByteArray)⟩ : S72)] : List (S72))).bind fun y9 => ((code_Valid.f k y9).bind fun t12 => (if t12 = true then ((know_Know.f k y9).bind fun bt13 => (some (bt13.1, bt13.2))) else (some (([] : List (S72)), 3))))) else (none))) else (none)))) else (some (([] : List (S72)), bt1.2)))
set_option maxHeartbeats 8000000 in
set_option maxRecDepth 100000 in
theorem ring_Bearer.calls (k : Nat) (A0 : Option Addr) (c0 : Nat) (l0 : List (S72)) (r1 : List (S72)) (r2 : Int) (w : World) (hr0 : Kd.C k72 w A0 l0.length l0) (hc0 : l0.length ≤ c0) (h : ring_Bearer.f k l0 = some (r1, r2)) :
  Calls Tryz.prog 33 #[.slice A0 l0.length c0] w fun e w' => ∃ v0_ : Value, e = .returned (.tuple #[v0_, .int .i64 r2]) ∧ Kd.R k72 72 w' w.heap.size (fun _ => True) v0_ r1 ∧ Below w.heap.size w w' := by
 have hu72 := Tryz.underlying72
 have HR0 := Aside0.mk hr0
 have HC0 := Aside0.mk hc0
 clear hr0 hc0
 have HB := Aside0.mk (Below.refl w.heap.size w)
 have H : ((code_Regs.f k l0).bind fun bt1 => (if bt1.2 = 0 then (if bt1.1 > 31 then (some (([] : List (S72)), 8)) else ((some (([(⟨3, bt1.1, 0, 0, (⟨#[]⟩ : ByteArray)⟩ : S72), (⟨4, 0, 0, 0, (⟨#[]⟩ : ByteArray)⟩ : S72)] : List (S72)) : List (S72))).bind fun y3 => (if y3.length + l0.length < 2932031007402 then ((some (y3 ++ l0 : List (S72))).bind fun y6 => (if y6.length < 2932031007402 then ((some (y6 ++ [(⟨2, 0, bt1.1, 0, (⟨#[]⟩ : ByteArray)⟩ : S72)] : List (S72))).bind fun y9 => ((code_Valid.f k y9).bind fun t12 => (if t12 = true then ((know_Know.f k y9).bind fun bt13 => (some (bt13.1, bt13.2))) else (some (([] : List (S72)), 3))))) else (none))) else (none)))) else (some (([] : List (S72)), bt1.2)))) = some (r1, r2) := h
 clear h
 replace H := Option.bind_eq_some_iff.mp H
 obtain ⟨⟨t1, t2⟩, A20, H⟩ := H
 replace H : (if t2 = 0 then (if t1 > 31 then (some (([] : List (S72)), 8)) else ((some (([(⟨3, t1, 0, 0, (⟨#[]⟩ : ByteArray)⟩ : S72), (⟨4, 0, 0, 0, (⟨#[]⟩ : ByteArray)⟩ : S72)] : List (S72)) : List (S72))).bind fun y3 => (if y3.length + l0.length < 2932031007402 then ((some (y3 ++ l0 : List (S72))).bind fun y6 => (if y6.length < 2932031007402 then ((some (y6 ++ [(⟨2, 0, t1, 0, (⟨#[]⟩ : ByteArray)⟩ : S72)] : List (S72))).bind fun y9 => ((code_Valid.f k y9).bind fun t12 => (if t12 = true then ((know_Know.f k y9).bind fun bt13 => (some (bt13.1, bt13.2))) else (some (([] : List (S72)), 3))))) else (none))) else (none)))) else (some (([] : List (S72)), t2))) = some (r1, r2) := H
 have A2 := Aside0.mk A20
 clear A20
 by_cases c3 : t2 = 0
 ·rw [if_pos c3] at H
  have c3b0 : (t2 == 0) = true := beq_iff_eq.mpr c3
  have c3b1 : (t2 != 0) = false := bne_eq_false_iff_eq.mpr c3
  clear c3
  by_cases c4 : t1 > 31
  ·rw [if_pos c4] at H
   have c4b0 : decide (31 < t1) = true := decide_eq_true c4
   clear c4
   simp only [Option.some.injEq, Prod.mk.injEq] at H
   obtain ⟨rfl, rfl⟩ := H
   go_enter Tryz.func33, Tryz.ntmps33
   go_wp2_with (first | ((with_reducible refine gate_callee (f := 53) rfl ?_); refine goesL_ (some 9) rfl rfl Tryz.func53 (by kernel_rfl) rfl #[.slice A0 l0.length c0] rfl (by (try simp only [List.map_toArray, List.map_cons, List.map_nil]); first | done | rfl | (simp only [List.length_drop, List.length_take]; rfl)) ?_; (with_reducible refine (code_Regs.calls k _ _ l0 t1 t2 _ ?side1 ?side2 A2.out).mono ?_); (case side1 => repeat (first | exact HR0.out | (with_reducible refine Kd.C_alloc ?_ _) | (with_reducible refine Kd.C_drewN ?_ _) | (with_reducible refine Kd.C_drew ?_))); (case side2 => exact HC0.out); rintro e w5 ⟨rfl, hb⟩; refine ⟨_, rfl, ?_⟩; have n0_ := Aside0.mk (below_step (by repeat (first | (with_reducible first | exact HB.out | apply below_alloc | apply pw_below_drewN | apply below_drew1) | exact HB.out)) hb); clear HB; have HB := n0_; clear n0_; (try clear hb); (try clear hb2); (try clear hk); (try clear hi)))
   go_ret2
   exact ⟨_, by first | rfl | (simp [errW_none, errW_some] <;> rfl) | (simp [*, errW_none, errW_some] <;> rfl), by first | exact Kd.R_nil _ _ _ _ _ | exact Kd.N_nil _ _ _ _ _ | exact Kd.V_nil _ _ _ _ _ | exact Kd.Q_nil _ _ _ _ _ | exact Kd.S_nil _ _ _ _ _, by repeat (first | (with_reducible first | exact HB.out | apply below_alloc | apply pw_below_drewN | apply below_drew1) | exact HB.out)⟩
  ·rw [if_neg c4] at H
   have c4b0 : decide (31 < t1) = false := decide_eq_false c4
   clear c4
   obtain ⟨y3, hy3⟩ : ∃ y_ : List (S72), y_ = (([(⟨3, t1, 0, 0, (⟨#[]⟩ : ByteArray)⟩ : S72), (⟨4, 0, 0, 0, (⟨#[]⟩ : ByteArray)⟩ : S72)] : List (S72))) := ⟨_, rfl⟩
   replace H : (if y3.length + l0.length < 2932031007402 then ((some (y3 ++ l0 : List (S72))).bind fun y6 => (if y6.length < 2932031007402 then ((some (y6 ++ [(⟨2, 0, t1, 0, (⟨#[]⟩ : ByteArray)⟩ : S72)] : List (S72))).bind fun y9 => ((code_Valid.f k y9).bind fun t12 => (if t12 = true then ((know_Know.f k y9).bind fun bt13 => (some (bt13.1, bt13.2))) else (some (([] : List (S72)), 3))))) else (none))) else (none)) = some (r1, r2) := by first | (rw [hy3]; with_reducible exact H) | (have H2_ := (Option.bind_some _ _).symm.trans H; rw [hy3]; with_reducible exact H2_) | (have H2_ := (Option.bind_some _ _).symm.trans H; with_reducible exact H2_) | with_reducible exact H | (rw [hy3]; exact H) | exact H
   have Ny3 := Aside0.mk hy3
   clear hy3
   by_cases c6 : y3.length + l0.length < 2932031007402
   ·rw [if_pos c6] at H
    have LMc6 := Aside0.mk c6
    clear c6
    obtain ⟨y6, hy6⟩ : ∃ y_ : List (S72), y_ = (y3 ++ l0) := ⟨_, rfl⟩
    replace H : (if y6.length < 2932031007402 then ((some (y6 ++ [(⟨2, 0, t1, 0, (⟨#[]⟩ : ByteArray)⟩ : S72)] : List (S72))).bind fun y9 => ((code_Valid.f k y9).bind fun t12 => (if t12 = true then ((know_Know.f k y9).bind fun bt13 => (some (bt13.1, bt13.2))) else (some (([] : List (S72)), 3))))) else (none)) = some (r1, r2) := by first | (rw [hy6]; with_reducible exact H) | (have H2_ := (Option.bind_some _ _).symm.trans H; rw [hy6]; with_reducible exact H2_) | (have H2_ := (Option.bind_some _ _).symm.trans H; with_reducible exact H2_) | with_reducible exact H | (rw [hy6]; exact H) | exact H
    have Ny6 := Aside0.mk hy6
    clear hy6
    by_cases c7 : y6.length < 2932031007402
    ·rw [if_pos c7] at H
     have LMc7 := Aside0.mk c7
     clear c7
     obtain ⟨y9, hy9⟩ : ∃ y_ : List (S72), y_ = (y6 ++ [(⟨2, 0, t1, 0, (⟨#[]⟩ : ByteArray)⟩ : S72)]) := ⟨_, rfl⟩
     replace H : ((code_Valid.f k y9).bind fun t12 => (if t12 = true then ((know_Know.f k y9).bind fun bt13 => (some (bt13.1, bt13.2))) else (some (([] : List (S72)), 3)))) = some (r1, r2) := by first | (rw [hy9]; with_reducible exact H) | (have H2_ := (Option.bind_some _ _).symm.trans H; rw [hy9]; with_reducible exact H2_) | (have H2_ := (Option.bind_some _ _).symm.trans H; with_reducible exact H2_) | with_reducible exact H | (rw [hy9]; exact H) | exact H
     have Ny9 := Aside0.mk hy9
     clear hy9
     replace H := Option.bind_eq_some_iff.mp H
     obtain ⟨t12, A80, H⟩ := H
     replace H : (if t12 = true then ((know_Know.f k y9).bind fun bt13 => (some (bt13.1, bt13.2))) else (some (([] : List (S72)), 3))) = some (r1, r2) := H
     have A8 := Aside0.mk A80
     clear A80
     by_cases c9 : t12 = true
     ·subst c9
      have H1 : ((know_Know.f k y9).bind fun bt13 => (some (bt13.1, bt13.2))) = some (r1, r2) := by rw [if_pos rfl] at H; exact H
      clear H
      have H := H1
      clear H1
      replace H := Option.bind_eq_some_iff.mp H
      obtain ⟨⟨t13, t16⟩, A100, H⟩ := H
      replace H : (some (t13, t16)) = some (r1, r2) := H
      have A10 := Aside0.mk A100
      clear A100
      simp only [Option.some.injEq, Prod.mk.injEq] at H
      obtain ⟨rfl, rfl⟩ := H
      go_enter Tryz.func33, Tryz.ntmps33
      go_wp2_with (first | ((with_reducible refine gate_callee (f := 53) rfl ?_); refine goesL_ (some 9) rfl rfl Tryz.func53 (by kernel_rfl) rfl #[.slice A0 l0.length c0] rfl (by (try simp only [List.map_toArray, List.map_cons, List.map_nil]); first | done | rfl | (simp only [List.length_drop, List.length_take]; rfl)) ?_; (with_reducible refine (code_Regs.calls k _ _ l0 t1 t2 _ ?side1 ?side2 A2.out).mono ?_); (case side1 => repeat (first | exact HR0.out | (with_reducible refine Kd.C_alloc ?_ _) | (with_reducible refine Kd.C_drewN ?_ _) | (with_reducible refine Kd.C_drew ?_))); (case side2 => exact HC0.out); rintro e w11 ⟨rfl, hb⟩; refine ⟨_, rfl, ?_⟩; have n0_ := Aside0.mk (below_step (by repeat (first | (with_reducible first | exact HB.out | apply below_alloc | apply pw_below_drewN | apply below_drew1) | exact HB.out)) hb); clear HB; have HB := n0_; clear n0_; (try clear hb); (try clear hb2); (try clear hk); (try clear hi)) | ((with_reducible refine gate_dst (N := 22) rfl ?_); refine Kd.R_lit k72 _ 72 ?hg (N := 22) ?hd (xs := ([(⟨3, t1, 0, 0, (⟨#[]⟩ : ByteArray)⟩ : S72), (⟨4, 0, 0, 0, (⟨#[]⟩ : ByteArray)⟩ : S72)] : List (S72))) (inner := [.int .i64 3, .int .i64 t1, .int .i64 0, .int .i64 0, .string (⟨#[]⟩ : ByteArray), .int .i64 4, .int .i64 0, .int .i64 0, .int .i64 0, .string (⟨#[]⟩ : ByteArray)]) (ok := fun _ => True) (okp := fun _ => True) ?hr ?hp (fun _ hk => hk) trivial (Below.refl _ _) (Nat.le_refl _) (by simp) ?_; (case hd => rfl); (case hg => rfl); (case hr => first | (go_simp; done) | (go_simp; rfl)); (case hp => exact (Reps.c5 (show Kd.M k72 _ _ _ (⟨3, t1, 0, 0, (⟨#[]⟩ : ByteArray)⟩ : S72) [.int .i64 3, .int .i64 t1, .int .i64 0, .int .i64 0, .string (⟨#[]⟩ : ByteArray)] from (k72_mkM _ _ _ (⟨3, t1, 0, 0, (⟨#[]⟩ : ByteArray)⟩ : S72) )) (Reps.c5 (show Kd.M k72 _ _ _ (⟨4, 0, 0, 0, (⟨#[]⟩ : ByteArray)⟩ : S72) [.int .i64 4, .int .i64 0, .int .i64 0, .int .i64 0, .string (⟨#[]⟩ : ByteArray)] from (k72_mkM _ _ _ (⟨4, 0, 0, 0, (⟨#[]⟩ : ByteArray)⟩ : S72) )) (Reps.none _ _)))); intro v4 w12 ho13 hb hg_ hnew_; clear hg_ hnew_; (first | rw [← Ny3.out] at ho13 | (simp only [Int.reduceToNat] at ho13; rw [← Ny3.out] at ho13)); have n0_ := Aside0.mk (Kd.R_lower ho13 (below_size (by repeat (first | (with_reducible first | exact HB.out | apply below_alloc | apply pw_below_drewN | apply below_drew1) | exact HB.out)))); have n1_ := Aside0.mk (below_step (by repeat (first | (with_reducible first | exact HB.out | apply below_alloc | apply pw_below_drewN | apply below_drew1) | exact HB.out)) hb); clear HB; have HO5 := n0_; have HB := n1_; clear n0_ n1_; clear hb ho13) | ((with_reducible refine gate_builtin (b := .append) (xs := #[.tmp 22, .tmp 23]) rfl ?_); at_builtin; refine Kd.R_append_rows k72 (w0 := w) w.heap.size rfl (.tmp 22) (.tmp 23) 47 72 (.agg #[(.int .i64 0), (.int .i64 0), (.int .i64 0), (.int .i64 0), (.string ⟨#[]⟩)]) 48 rfl Tryz.underlying47 info72 rfl (by decide) (by omega) v4 y3 l0 _ _ _ (fun _ => True) (fun _ => False) rfl rfl ?aO ?aR (fun _ _ h => h) (fun _ h => h.elim) ?aF ?aB ?aS ?aL ?_; (case aR => repeat (first | exact (Kd.C_below HR0.out HB.out) | (with_reducible refine Kd.C_alloc ?_ _) | (with_reducible refine Kd.C_drewN ?_ _) | (with_reducible refine Kd.C_drew ?_))); (case aB => exact (by repeat (first | (with_reducible first | exact HB.out | apply below_alloc | apply pw_below_drewN | apply below_drew1) | exact HB.out))); (case aF => exact (fun _ _ => trivial)); (case aO => exact (by (with_reducible repeat (first | apply Kd.R_alloc | apply Kd.R_drewN | apply Kd.R_drew)); exact HO5.out)); (case aS => exact (below_size (by repeat (first | (with_reducible first | exact HB.out | apply below_alloc | apply pw_below_drewN | apply below_drew1) | exact HB.out)))); (case aL => have := LMc6.out; first | omega | (simp only [lit_size, List.size_toArray, List.length_cons, List.length_nil]; omega)); intro v7 w14 ho hb hg hat; rw [← Ny6.out] at ho; have n0_ := Aside0.mk (hb); have n1_ := Aside0.mk (ho); clear HB; clear HO5; have HB := n0_; have HO8 := n1_; clear n0_ n1_; clear ho hb hg hat) | ((with_reducible refine gate_builtin (b := .append) (xs := #[.tmp 25, .tmp 28]) rfl ?_); at_builtin; refine Kd.R_append k72 (w0 := w) w.heap.size rfl (.tmp 25) (.tmp 28) 47 72 (.agg #[(.int .i64 0), (.int .i64 0), (.int .i64 0), (.int .i64 0), (.string ⟨#[]⟩)]) 48 rfl Tryz.underlying47 info72 rfl (by decide) (by omega) v7 y6 (⟨2, 0, t1, 0, (⟨#[]⟩ : ByteArray)⟩ : S72) [.int .i64 2, .int .i64 0, .int .i64 t1, .int .i64 0, .string (⟨#[]⟩ : ByteArray)] (fun _ => True) (fun _ => False) rfl rfl ?aP (fun _ hk => hk.elim) ?aF ?aO ?aB ?aS ?aL ?_; (case aP => exact k72_mkM _ _ _ (⟨2, 0, t1, 0, (⟨#[]⟩ : ByteArray)⟩ : S72)); (case aB => exact (by repeat (first | (with_reducible first | exact HB.out | apply below_alloc | apply pw_below_drewN | apply below_drew1) | exact HB.out))); (case aF => exact (fun _ _ => trivial)); (case aO => exact (by (with_reducible repeat (first | apply Kd.R_alloc | apply Kd.R_drewN | apply Kd.R_drew)); exact HO8.out)); (case aS => exact (below_size (by repeat (first | (with_reducible first | exact HB.out | apply below_alloc | apply pw_below_drewN | apply below_drew1) | exact HB.out)))); (case aL => have := LMc7.out; first | omega | (simp only [lit_size, List.size_toArray, List.length_cons, List.length_nil]; omega)); intro v10 w15 ho hb hg hat; rw [← Ny9.out] at ho; have n0_ := Aside0.mk (hb); have n1_ := Aside0.mk (ho); clear HB; clear HO8; have HB := n0_; have HO11 := n1_; clear n0_ n1_; clear ho hb hg hat; obtain ⟨Ao16, co16, eo16⟩ := Kd.R_slice HO11.out; subst eo16) | ((with_reducible refine gate_callee (f := 40) rfl ?_); refine goesL_ (some 31) rfl rfl Tryz.func40 (by kernel_rfl) rfl #[.slice Ao16 y9.length co16] rfl (by (try simp only [List.map_toArray, List.map_cons, List.map_nil]); first | done | rfl | (simp only [List.length_drop, List.length_take]; rfl)) ?_; (with_reducible refine (code_Valid.calls k _ _ y9 true _ ?side1 ?side2 A8.out).mono ?_); (case side1 => repeat (first | exact (Kd.R_reads' HO11.out).2.2 | (with_reducible refine Kd.C_alloc ?_ _) | (with_reducible refine Kd.C_drewN ?_ _) | (with_reducible refine Kd.C_drew ?_))); (case side2 => exact (Kd.R_reads' HO11.out).2.1); rintro e w17 ⟨rfl, hb⟩; refine ⟨_, rfl, ?_⟩; have n0_ := Aside0.mk (Kd.R_below (by (with_reducible repeat (first | apply Kd.R_alloc | apply Kd.R_drewN | apply Kd.R_drew)); exact HO11.out) hb); have n1_ := Aside0.mk (below_step (by repeat (first | (with_reducible first | exact HB.out | apply below_alloc | apply pw_below_drewN | apply below_drew1) | exact HB.out)) hb); clear HO11; clear HB; have HO11 := n0_; have HB := n1_; clear n0_ n1_; (try clear hb); (try clear hb2); (try clear hk); (try clear hi)) | ((with_reducible refine gate_callee (f := 54) rfl ?_); refine goesL_ (some 34) rfl rfl Tryz.func54 (by kernel_rfl) rfl #[.slice Ao16 y9.length co16] rfl (by (try simp only [List.map_toArray, List.map_cons, List.map_nil]); first | done | rfl | (simp only [List.length_drop, List.length_take]; rfl)) ?_; (with_reducible refine (know_Know.calls k (fun k_ => some k_ = (.slice Ao16 y9.length co16 : Value).ownBlock) _ _ y9 t13 t16 _ ?side1 A10.out).mono ?_); (case side1 => exact Kd.R_V (Kd.R_tight rfl (HO11.out))); rintro e w18 ⟨v14, rfl, ho0, hb⟩; refine ⟨_, rfl, ?_⟩; have n0_ := Aside0.mk (Kd.R_elder' (by (with_reducible repeat (first | apply Kd.R_alloc | apply Kd.R_drewN | apply Kd.R_drew)); exact HO11.out) (Kd.R_base ho0) hb); have n1_ := Aside0.mk (Kd.R_lower (Kd.R_new' (Kd.R_mono (ok' := fun k_ => True) ho0 (fun _ hk_ => trivial)) (Kd.R_lt (by (with_reducible repeat (first | apply Kd.R_alloc | apply Kd.R_drewN | apply Kd.R_drew)); exact HO11.out))) (below_size (by repeat (first | (with_reducible first | exact HB.out | apply below_alloc | apply pw_below_drewN | apply below_drew1) | exact HB.out)))); have n2_ := Aside0.mk (below_step (by repeat (first | (with_reducible first | exact HB.out | apply below_alloc | apply pw_below_drewN | apply below_drew1) | exact HB.out)) hb); clear HO11; clear HB; have HO11 := n0_; have HO15 := n1_; have HB := n2_; clear n0_ n1_ n2_; (try clear hb); (try clear hb2); (try clear hk); (try clear hi); (try clear ho0)))
      go_ret2
      exact ⟨_, by first | rfl | (simp [errW_none, errW_some] <;> rfl) | (simp [*, errW_none, errW_some] <;> rfl), by (with_reducible repeat (first | apply Kd.R_alloc | apply Kd.R_drewN | apply Kd.R_drew)); exact Kd.R_mono HO15.out (fun _ hk => trivial), by repeat (first | (with_reducible first | exact HB.out | apply below_alloc | apply pw_below_drewN | apply below_drew1) | exact HB.out)⟩
     ·replace c9 := Bool.eq_false_iff.mpr c9
      subst c9
      have H1 : (some (([] : List (S72)), 3)) = some (r1, r2) := by rw [if_neg (show ¬ (false = true) by decide)] at H; exact H
      clear H
      have H := H1
      clear H1
      simp only [Option.some.injEq, Prod.mk.injEq] at H
      obtain ⟨rfl, rfl⟩ := H
      go_enter Tryz.func33, Tryz.ntmps33
      go_wp2_with (first | ((with_reducible refine gate_callee (f := 53) rfl ?_); refine goesL_ (some 9) rfl rfl Tryz.func53 (by kernel_rfl) rfl #[.slice A0 l0.length c0] rfl (by (try simp only [List.map_toArray, List.map_cons, List.map_nil]); first | done | rfl | (simp only [List.length_drop, List.length_take]; rfl)) ?_; (with_reducible refine (code_Regs.calls k _ _ l0 t1 t2 _ ?side1 ?side2 A2.out).mono ?_); (case side1 => repeat (first | exact HR0.out | (with_reducible refine Kd.C_alloc ?_ _) | (with_reducible refine Kd.C_drewN ?_ _) | (with_reducible refine Kd.C_drew ?_))); (case side2 => exact HC0.out); rintro e w19 ⟨rfl, hb⟩; refine ⟨_, rfl, ?_⟩; have n0_ := Aside0.mk (below_step (by repeat (first | (with_reducible first | exact HB.out | apply below_alloc | apply pw_below_drewN | apply below_drew1) | exact HB.out)) hb); clear HB; have HB := n0_; clear n0_; (try clear hb); (try clear hb2); (try clear hk); (try clear hi)) | ((with_reducible refine gate_dst (N := 22) rfl ?_); refine Kd.R_lit k72 _ 72 ?hg (N := 22) ?hd (xs := ([(⟨3, t1, 0, 0, (⟨#[]⟩ : ByteArray)⟩ : S72), (⟨4, 0, 0, 0, (⟨#[]⟩ : ByteArray)⟩ : S72)] : List (S72))) (inner := [.int .i64 3, .int .i64 t1, .int .i64 0, .int .i64 0, .string (⟨#[]⟩ : ByteArray), .int .i64 4, .int .i64 0, .int .i64 0, .int .i64 0, .string (⟨#[]⟩ : ByteArray)]) (ok := fun _ => True) (okp := fun _ => True) ?hr ?hp (fun _ hk => hk) trivial (Below.refl _ _) (Nat.le_refl _) (by simp) ?_; (case hd => rfl); (case hg => rfl); (case hr => first | (go_simp; done) | (go_simp; rfl)); (case hp => exact (Reps.c5 (show Kd.M k72 _ _ _ (⟨3, t1, 0, 0, (⟨#[]⟩ : ByteArray)⟩ : S72) [.int .i64 3, .int .i64 t1, .int .i64 0, .int .i64 0, .string (⟨#[]⟩ : ByteArray)] from (k72_mkM _ _ _ (⟨3, t1, 0, 0, (⟨#[]⟩ : ByteArray)⟩ : S72) )) (Reps.c5 (show Kd.M k72 _ _ _ (⟨4, 0, 0, 0, (⟨#[]⟩ : ByteArray)⟩ : S72) [.int .i64 4, .int .i64 0, .int .i64 0, .int .i64 0, .string (⟨#[]⟩ : ByteArray)] from (k72_mkM _ _ _ (⟨4, 0, 0, 0, (⟨#[]⟩ : ByteArray)⟩ : S72) )) (Reps.none _ _)))); intro v4 w20 ho21 hb hg_ hnew_; clear hg_ hnew_; (first | rw [← Ny3.out] at ho21 | (simp only [Int.reduceToNat] at ho21; rw [← Ny3.out] at ho21)); have n0_ := Aside0.mk (Kd.R_lower ho21 (below_size (by repeat (first | (with_reducible first | exact HB.out | apply below_alloc | apply pw_below_drewN | apply below_drew1) | exact HB.out)))); have n1_ := Aside0.mk (below_step (by repeat (first | (with_reducible first | exact HB.out | apply below_alloc | apply pw_below_drewN | apply below_drew1) | exact HB.out)) hb); clear HB; have HO5 := n0_; have HB := n1_; clear n0_ n1_; clear hb ho21) | ((with_reducible refine gate_builtin (b := .append) (xs := #[.tmp 22, .tmp 23]) rfl ?_); at_builtin; refine Kd.R_append_rows k72 (w0 := w) w.heap.size rfl (.tmp 22) (.tmp 23) 47 72 (.agg #[(.int .i64 0), (.int .i64 0), (.int .i64 0), (.int .i64 0), (.string ⟨#[]⟩)]) 48 rfl Tryz.underlying47 info72 rfl (by decide) (by omega) v4 y3 l0 _ _ _ (fun _ => True) (fun _ => False) rfl rfl ?aO ?aR (fun _ _ h => h) (fun _ h => h.elim) ?aF ?aB ?aS ?aL ?_; (case aR => repeat (first | exact (Kd.C_below HR0.out HB.out) | (with_reducible refine Kd.C_alloc ?_ _) | (with_reducible refine Kd.C_drewN ?_ _) | (with_reducible refine Kd.C_drew ?_))); (case aB => exact (by repeat (first | (with_reducible first | exact HB.out | apply below_alloc | apply pw_below_drewN | apply below_drew1) | exact HB.out))); (case aF => exact (fun _ _ => trivial)); (case aO => exact (by (with_reducible repeat (first | apply Kd.R_alloc | apply Kd.R_drewN | apply Kd.R_drew)); exact HO5.out)); (case aS => exact (below_size (by repeat (first | (with_reducible first | exact HB.out | apply below_alloc | apply pw_below_drewN | apply below_drew1) | exact HB.out)))); (case aL => have := LMc6.out; first | omega | (simp only [lit_size, List.size_toArray, List.length_cons, List.length_nil]; omega)); intro v7 w22 ho hb hg hat; rw [← Ny6.out] at ho; have n0_ := Aside0.mk (hb); have n1_ := Aside0.mk (ho); clear HB; clear HO5; have HB := n0_; have HO8 := n1_; clear n0_ n1_; clear ho hb hg hat) | ((with_reducible refine gate_builtin (b := .append) (xs := #[.tmp 25, .tmp 28]) rfl ?_); at_builtin; refine Kd.R_append k72 (w0 := w) w.heap.size rfl (.tmp 25) (.tmp 28) 47 72 (.agg #[(.int .i64 0), (.int .i64 0), (.int .i64 0), (.int .i64 0), (.string ⟨#[]⟩)]) 48 rfl Tryz.underlying47 info72 rfl (by decide) (by omega) v7 y6 (⟨2, 0, t1, 0, (⟨#[]⟩ : ByteArray)⟩ : S72) [.int .i64 2, .int .i64 0, .int .i64 t1, .int .i64 0, .string (⟨#[]⟩ : ByteArray)] (fun _ => True) (fun _ => False) rfl rfl ?aP (fun _ hk => hk.elim) ?aF ?aO ?aB ?aS ?aL ?_; (case aP => exact k72_mkM _ _ _ (⟨2, 0, t1, 0, (⟨#[]⟩ : ByteArray)⟩ : S72)); (case aB => exact (by repeat (first | (with_reducible first | exact HB.out | apply below_alloc | apply pw_below_drewN | apply below_drew1) | exact HB.out))); (case aF => exact (fun _ _ => trivial)); (case aO => exact (by (with_reducible repeat (first | apply Kd.R_alloc | apply Kd.R_drewN | apply Kd.R_drew)); exact HO8.out)); (case aS => exact (below_size (by repeat (first | (with_reducible first | exact HB.out | apply below_alloc | apply pw_below_drewN | apply below_drew1) | exact HB.out)))); (case aL => have := LMc7.out; first | omega | (simp only [lit_size, List.size_toArray, List.length_cons, List.length_nil]; omega)); intro v10 w23 ho hb hg hat; rw [← Ny9.out] at ho; have n0_ := Aside0.mk (hb); have n1_ := Aside0.mk (ho); clear HB; clear HO8; have HB := n0_; have HO11 := n1_; clear n0_ n1_; clear ho hb hg hat; obtain ⟨Ao24, co24, eo24⟩ := Kd.R_slice HO11.out; subst eo24) | ((with_reducible refine gate_callee (f := 40) rfl ?_); refine goesL_ (some 31) rfl rfl Tryz.func40 (by kernel_rfl) rfl #[.slice Ao24 y9.length co24] rfl (by (try simp only [List.map_toArray, List.map_cons, List.map_nil]); first | done | rfl | (simp only [List.length_drop, List.length_take]; rfl)) ?_; (with_reducible refine (code_Valid.calls k _ _ y9 false _ ?side1 ?side2 A8.out).mono ?_); (case side1 => repeat (first | exact (Kd.R_reads' HO11.out).2.2 | (with_reducible refine Kd.C_alloc ?_ _) | (with_reducible refine Kd.C_drewN ?_ _) | (with_reducible refine Kd.C_drew ?_))); (case side2 => exact (Kd.R_reads' HO11.out).2.1); rintro e w25 ⟨rfl, hb⟩; refine ⟨_, rfl, ?_⟩; have n0_ := Aside0.mk (Kd.R_below (by (with_reducible repeat (first | apply Kd.R_alloc | apply Kd.R_drewN | apply Kd.R_drew)); exact HO11.out) hb); have n1_ := Aside0.mk (below_step (by repeat (first | (with_reducible first | exact HB.out | apply below_alloc | apply pw_below_drewN | apply below_drew1) | exact HB.out)) hb); clear HO11; clear HB; have HO11 := n0_; have HB := n1_; clear n0_ n1_; (try clear hb); (try clear hb2); (try clear hk); (try clear hi)))
      go_ret2
      exact ⟨_, by first | rfl | (simp [errW_none, errW_some] <;> rfl) | (simp [*, errW_none, errW_some] <;> rfl), by first | exact Kd.R_nil _ _ _ _ _ | exact Kd.N_nil _ _ _ _ _ | exact Kd.V_nil _ _ _ _ _ | exact Kd.Q_nil _ _ _ _ _ | exact Kd.S_nil _ _ _ _ _, by repeat (first | (with_reducible first | exact HB.out | apply below_alloc | apply pw_below_drewN | apply below_drew1) | exact HB.out)⟩
    ·rw [if_neg c7] at H
     exact absurd H (by simp)
   ·rw [if_neg c6] at H
    exact absurd H (by simp)
 ·rw [if_neg c3] at H
  have c3b0 : (t2 == 0) = false := beq_eq_false_iff_ne.mpr c3
  have c3b1 : (t2 != 0) = true := bne_iff_ne.mpr c3
  simp only [Option.some.injEq, Prod.mk.injEq] at H
  obtain ⟨rfl, rfl⟩ := H
  go_enter Tryz.func33, Tryz.ntmps33
  go_wp2_with (first | ((with_reducible refine gate_callee (f := 53) rfl ?_); refine goesL_ (some 9) rfl rfl Tryz.func53 (by kernel_rfl) rfl #[.slice A0 l0.length c0] rfl (by (try simp only [List.map_toArray, List.map_cons, List.map_nil]); first | done | rfl | (simp only [List.length_drop, List.length_take]; rfl)) ?_; (with_reducible refine (code_Regs.calls k _ _ l0 t1 t2 _ ?side1 ?side2 A2.out).mono ?_); (case side1 => repeat (first | exact HR0.out | (with_reducible refine Kd.C_alloc ?_ _) | (with_reducible refine Kd.C_drewN ?_ _) | (with_reducible refine Kd.C_drew ?_))); (case side2 => exact HC0.out); rintro e w26 ⟨rfl, hb⟩; refine ⟨_, rfl, ?_⟩; have n0_ := Aside0.mk (below_step (by repeat (first | (with_reducible first | exact HB.out | apply below_alloc | apply pw_below_drewN | apply below_drew1) | exact HB.out)) hb); clear HB; have HB := n0_; clear n0_; (try clear hb); (try clear hb2); (try clear hk); (try clear hi)))
  go_ret2
  exact ⟨_, by first | rfl | (simp [errW_none, errW_some] <;> rfl) | (simp [*, errW_none, errW_some] <;> rfl), by first | exact Kd.R_nil _ _ _ _ _ | exact Kd.N_nil _ _ _ _ _ | exact Kd.V_nil _ _ _ _ _ | exact Kd.Q_nil _ _ _ _ _ | exact Kd.S_nil _ _ _ _ _, by repeat (first | (with_reducible first | exact HB.out | apply below_alloc | apply pw_below_drewN | apply below_drew1) | exact HB.out)⟩
end Go.Proofs.YtocoamgbpoommaaGreatDoor.C
end
section
namespace Go.Proofs.YtocoamgbpoommaaGreatDoor.C
open Go.RowKit Go.Proofs.YtocoamgbpoommaaGreatDoorW.PrintWords Go.Proofs.YtocoamgbpoommaaGreatDoorW.PrintLast Go.Proofs.YtocoamgbpoommaaGreatDoorW.PrintMore
attribute [local go_sem] max2_int min2_int max_two min_two max_three min_three max_four min_four
set_option linter.unusedVariables false
set_option linter.unusedSimpArgs false
def narcissusref08_cons.f (a0 : Int) (a1 : Int) (a2 : Int) : Option (Int × Int × Int × Int × ByteArray) := some (2, a0, a1, a2, (⟨#[]⟩ : ByteArray))
end Go.Proofs.YtocoamgbpoommaaGreatDoor.C
end
section
namespace Go.Proofs.YtocoamgbpoommaaGreatDoor.C
open Go.RowKit Go.Proofs.YtocoamgbpoommaaGreatDoorW.PrintWords Go.Proofs.YtocoamgbpoommaaGreatDoorW.PrintLast Go.Proofs.YtocoamgbpoommaaGreatDoorW.PrintMore
attribute [local go_sem] max2_int min2_int max_two min_two max_three min_three max_four min_four
set_option linter.unusedVariables false
set_option linter.unusedSimpArgs false
def narcissusref08_Bearer.f (k : Nat) (l0 : List (S72)) : Option ((List (S72)) × Int) := (narcissusref02_Regs.f k l0).bind fun t1 => (if t1 > 31 then (some (([] : List (S72)), 8)) else ((narcissusref08_head.f t1 0).bind fun bt2 => ((narcissusref08_tail.f 0 0).bind fun bt7 => ((some (([(⟨bt2.1, bt2.2.1, bt2.2.2.1, bt2.2.2.2.1, bt2.2.2.2.2⟩ : S72), (⟨bt7.1, bt7.2.1, bt7.2.2.1, bt7.2.2.2.1, bt7.2.2.2.2⟩ : S72)] : List (S72)) : List (S72))).bind fun y12 => (if y12.length + l0.length < 2932031007402 then ((some (y12 ++ l0 : List (S72))).bind fun y15 => ((narcissusref08_cons.f 0 t1 0).bind fun bt18 => (if y15.length < 2932031007402 then ((narcissusref07_Made.f k (y15 ++ [(⟨bt18.1, bt18.2.1, bt18.2.2.1, bt18.2.2.2.1, bt18.2.2.2.2⟩ : S72)])).bind fun bt26 => (some (bt26.1, bt26.2))) else (none)))) else (none))))))
end Go.Proofs.YtocoamgbpoommaaGreatDoor.C
end
