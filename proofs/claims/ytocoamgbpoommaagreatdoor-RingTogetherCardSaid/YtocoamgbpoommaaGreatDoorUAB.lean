/- Texts of this claim, together: what the functions return, and what they say in plain words. -/
import Derived.Test.YtocoamgbpoommaaGreatDoorUB
import Derived.Test.YtocoamgbpoommaaGreatDoorUAA
import Derived.Test.YtocoamgbpoommaaGreatDoorUZ
import Derived.Test.YtocoamgbpoommaaGreatDoorUJ
section
namespace Go.Proofs.YtocoamgbpoommaaGreatDoor.C
open Go.RowKit Go.Proofs.YtocoamgbpoommaaGreatDoorW.PrintWords Go.Proofs.YtocoamgbpoommaaGreatDoorW.PrintLast Go.Proofs.YtocoamgbpoommaaGreatDoorW.PrintMore
attribute [local go_sem] max2_int min2_int max_two min_two max_three min_three max_four min_four
set_option linter.unusedVariables false
set_option linter.unusedSimpArgs false

/-! ### narcissusref08_Same: function 16 -/
def narcissusref08_Same.l0 : Nat → List (List (S72)) → List (List (S72)) → Int → Option (Bool)
 | 0, _, _, _ => none
 | k + 1, x0, x1, x5 => if x5 < (x0.length : Int) then (if 0 ≤ x5 then (if x5 < (x1.length : Int) then ((narcissusref02_Same.f k (rd_L3 x0 x5) (rd_L3 x1 x5)).bind fun t3 => (if t3 = true then (narcissusref08_Same.l0 k x0 x1 (wrap64 (x5 + 1))) else (some false))) else (none)) else (none)) else (some true)
def narcissusref08_Same.f (k : Nat) (l0 : List (List (S72))) (l1 : List (List (S72))) : Option (Bool) := if (l0.length : Int) = (l1.length : Int) then (narcissusref08_Same.l0 k l0 l1 0) else (some false)
theorem narcissusref08_Same.mono_l : ∀ k, (∀ y0 y1 y2, LeO (narcissusref08_Same.l0 k y0 y1 y2) (narcissusref08_Same.l0 (k + 1) y0 y1 y2))
 | 0 => fun _ _ _ r h => by simp [narcissusref08_Same.l0] at h
 | k + 1 => by
  have ih0 := narcissusref08_Same.mono_l k
  ·intro y0 y1 y2
   unfold narcissusref08_Same.l0
   repeat' first
   | (with_reducible exact ih0 _ _ _)
   | (with_reducible exact narcissusref02_Same.mono _ _ _)
   | (with_reducible exact LeO.refl _)
   | (with_reducible exact LeO.none _)
   | (with_reducible refine LeO.ite ?_ ?_)
   | (with_reducible refine LeO.bind ?_ (fun _ => ?_))
   | exact ih0 _ _ _
   | exact narcissusref02_Same.mono _ _ _
   | exact LeO.none _
   | refine LeO.ite ?_ ?_
   | refine LeO.bind ?_ (fun _ => ?_)
theorem narcissusref08_Same.mono : ∀ a0 a1 k, LeO (narcissusref08_Same.f k a0 a1) (narcissusref08_Same.f (k + 1) a0 a1) := by
 intro a0 a1 k
 have ih0 := narcissusref08_Same.mono_l k
 unfold narcissusref08_Same.f
 repeat' first
   | (with_reducible exact ih0 _ _ _)
   | (with_reducible exact narcissusref02_Same.mono _ _ _)
   | (with_reducible exact LeO.refl _)
   | (with_reducible exact LeO.none _)
   | (with_reducible refine LeO.ite ?_ ?_)
   | (with_reducible refine LeO.bind ?_ (fun _ => ?_))
   | exact ih0 _ _ _
   | exact narcissusref02_Same.mono _ _ _
   | exact LeO.none _
   | refine LeO.ite ?_ ?_
   | refine LeO.bind ?_ (fun _ => ?_)
set_option maxHeartbeats 8000000 in
set_option maxRecDepth 100000 in
theorem narcissusref08_Same.calls (k : Nat) (A0 : Option Addr) (c0 : Nat) (l0 : List (List (S72))) (A1 : Option Addr) (c1 : Nat) (l1 : List (List (S72))) (r : Bool) (w : World) (hr0 : Kd.C (Kd.slice 72 k72) w A0 l0.length l0) (hc0 : l0.length ≤ c0) (hr1 : Kd.C (Kd.slice 72 k72) w A1 l1.length l1) (hc1 : l1.length ≤ c1) (h : narcissusref08_Same.f k l0 l1 = some r) :
  Calls Tryz.prog 16 #[.slice A0 l0.length c0, .slice A1 l1.length c1] w fun e w' => e = .returned (.bool r) ∧ Drawn0 w w' := by
 have HR0 := Aside0.mk hr0
 have HC0 := Aside0.mk hc0
 clear hr0 hc0
 have HR1 := Aside0.mk hr1
 have HC1 := Aside0.mk hc1
 clear hr1 hc1
 have H : (if (l0.length : Int) = (l1.length : Int) then (narcissusref08_Same.l0 k l0 l1 0) else (some false)) = some r := h
 clear h
 by_cases c3 : (l0.length : Int) = (l1.length : Int)
 ·rw [if_pos c3] at H
  have c3b0 : ((l0.length : Int) == (l1.length : Int)) = true := beq_iff_eq.mpr c3
  have c3b1 : ((l0.length : Int) != (l1.length : Int)) = false := bne_eq_false_iff_eq.mpr c3
  have c3b2 : (l0.length == l1.length) = true := by first | simpa using c3 | (simp at c3 ⊢; omega)
  clear c3
  have H' := Aside0.mk H
  clear H
  go_enter Tryz.func16, Tryz.ntmps16
  go_wp2
  repeat (go_quiet (fail); try go_wp2)
  go_loopg [5] k (fun kq v5 w' => ∃ (x5_1 : Int), v5 = .int .i64 x5_1 ∧ Aside0 (narcissusref08_Same.l0 kq l0 l1 x5_1 = some r) ∧ Aside0 (kq ≤ k) ∧ Drawn0 w w')
  case atStart => exact ⟨(0), (by first | rfl | (simp; done) | (simp [*]; done)), H', ⟨Nat.le_refl _⟩, by repeat (first | exact Drawn0.refl _ | apply Drawn0.step)⟩
  case round =>
   clear H'
   try clear c1
   try clear p2
   try clear c3
   try clear c3b0
   try clear c3b1
   try clear c3b2
   obtain ⟨x5_1, rfl, HA, HK1, ⟨m1, rfl⟩⟩ := hrel
   cases gk with
   | zero => exact absurd HA.out (by simp [narcissusref08_Same.l0])
   | succ k1 =>
    have H := HA.out
    clear HA
    simp only [narcissusref08_Same.l0] at H
    by_cases c4 : x5_1 < (l0.length : Int)
    ·rw [if_pos c4] at H
     have c4b0 : decide (x5_1 < (l0.length : Int)) = true := decide_eq_true c4
     clear c4
     by_cases c5 : 0 ≤ x5_1
     ·rw [if_pos c5] at H
      have c5b0 : decide (0 ≤ x5_1) = true := decide_eq_true c5
      clear c5
      by_cases c6 : x5_1 < (l1.length : Int)
      ·rw [if_pos c6] at H
       have c6b0 : decide (x5_1 < (l1.length : Int)) = true := decide_eq_true c6
       clear c6
       replace H := Option.bind_eq_some_iff.mp H
       obtain ⟨t3, A70, H⟩ := H
       replace H : (if t3 = true then (narcissusref08_Same.l0 k1 l0 l1 (wrap64 (x5_1 + 1))) else (some false)) = some r := H
       have A7 := Aside0.mk A70
       clear A70
       by_cases c8 : t3 = true
       ·subst c8
        have H1 : (narcissusref08_Same.l0 k1 l0 l1 (wrap64 (x5_1 + 1))) = some r := by rw [if_pos rfl] at H; exact H
        clear H
        have H := H1
        clear H1
        have H' := Aside0.mk H
        clear H
        have p1 : 0 ≤ (x5_1 : Int) := of_decide_eq_true (by first | (with_reducible assumption) | assumption)
        have q1 : x5_1 < (l0.length : Int) := of_decide_eq_true (by first | (with_reducible assumption) | assumption)
        obtain ⟨ad1, A1_0, c1_0, e1, hx1_0, hl1_0, hi1_0⟩ := at_L3 HR0.out x5_1 p1 q1
        cases e1
        have HR1_0 := Aside0.mk hi1_0
        have HC1_0 := Aside0.mk hl1_0
        clear hi1_0 hl1_0
        replace p1 := eq_true p1
        replace q1 := eq_true q1
        have p2 : 0 ≤ (x5_1 : Int) := of_decide_eq_true (by first | (with_reducible assumption) | assumption)
        have q2 : x5_1 < (l1.length : Int) := of_decide_eq_true (by first | (with_reducible assumption) | assumption)
        obtain ⟨ad2, A2_0, c2_0, e2, hx2_0, hl2_0, hi2_0⟩ := at_L3 HR1.out x5_1 p2 q2
        cases e2
        have HR2_0 := Aside0.mk hi2_0
        have HC2_0 := Aside0.mk hl2_0
        clear hi2_0 hl2_0
        replace p2 := eq_true p2
        replace q2 := eq_true q2
        go_wp2_with (first | (go_at_call 34; (with_reducible refine (narcissusref02_Same.calls k1 _ _ (rd_L3 l0 x5_1) _ _ (rd_L3 l1 x5_1) true _ ?side1 ?side2 ?side3 ?side4 A7.out).mono ?_); (case side1 => repeat (first | exact HR1_0.out | (with_reducible refine Kd.C_alloc ?_ _) | (with_reducible refine Kd.C_drewN ?_ _) | (with_reducible refine Kd.C_drew ?_))); (case side2 => exact HC1_0.out); (case side3 => repeat (first | exact HR2_0.out | (with_reducible refine Kd.C_alloc ?_ _) | (with_reducible refine Kd.C_drewN ?_ _) | (with_reducible refine Kd.C_drew ?_))); (case side4 => exact HC2_0.out); rintro e w' ⟨rfl, ⟨nd, rfl⟩⟩; (try first | exact ⟨rfl, _, World.drewN_drewN _ _ _⟩ | exact ⟨rfl, _, Eq.trans (World.drewN_drewN _ _ _) (congrArg (World.drewN _) (Nat.add_assoc _ _ _))⟩)))
        repeat (go_quiet (first | (go_at_call 34; (with_reducible refine (narcissusref02_Same.calls k1 _ _ (rd_L3 l0 x5_1) _ _ (rd_L3 l1 x5_1) true _ ?side1 ?side2 ?side3 ?side4 A7.out).mono ?_); (case side1 => repeat (first | exact HR1_0.out | (with_reducible refine Kd.C_alloc ?_ _) | (with_reducible refine Kd.C_drewN ?_ _) | (with_reducible refine Kd.C_drew ?_))); (case side2 => exact HC1_0.out); (case side3 => repeat (first | exact HR2_0.out | (with_reducible refine Kd.C_alloc ?_ _) | (with_reducible refine Kd.C_drewN ?_ _) | (with_reducible refine Kd.C_drew ?_))); (case side4 => exact HC2_0.out); rintro e w' ⟨rfl, ⟨nd, rfl⟩⟩; (try first | exact ⟨rfl, _, World.drewN_drewN _ _ _⟩ | exact ⟨rfl, _, Eq.trans (World.drewN_drewN _ _ _) (congrArg (World.drewN _) (Nat.add_assoc _ _ _))⟩))); try go_wp2_with (first | (go_at_call 34; (with_reducible refine (narcissusref02_Same.calls k1 _ _ (rd_L3 l0 x5_1) _ _ (rd_L3 l1 x5_1) true _ ?side1 ?side2 ?side3 ?side4 A7.out).mono ?_); (case side1 => repeat (first | exact HR1_0.out | (with_reducible refine Kd.C_alloc ?_ _) | (with_reducible refine Kd.C_drewN ?_ _) | (with_reducible refine Kd.C_drew ?_))); (case side2 => exact HC1_0.out); (case side3 => repeat (first | exact HR2_0.out | (with_reducible refine Kd.C_alloc ?_ _) | (with_reducible refine Kd.C_drewN ?_ _) | (with_reducible refine Kd.C_drew ?_))); (case side4 => exact HC2_0.out); rintro e w' ⟨rfl, ⟨nd, rfl⟩⟩; (try first | exact ⟨rfl, _, World.drewN_drewN _ _ _⟩ | exact ⟨rfl, _, Eq.trans (World.drewN_drewN _ _ _) (congrArg (World.drewN _) (Nat.add_assoc _ _ _))⟩))))
        go_roundg k1
        case measure => have := HK1.out; omega
        case rel => exact ⟨(wrap64 (x5_1 + 1)), (by first | rfl | (simp; done) | (simp [*]; done)), H', ⟨by have := HK1.out; omega⟩, by repeat (first | exact Drawn0.refl _ | apply Drawn0.step)⟩
       ·replace c8 := Bool.eq_false_iff.mpr c8
        subst c8
        have H1 : (some false) = some r := by rw [if_neg (show ¬ (false = true) by decide)] at H; exact H
        clear H
        have H := H1
        clear H1
        obtain rfl := Option.some.inj H
        have p1 : 0 ≤ (x5_1 : Int) := of_decide_eq_true (by first | (with_reducible assumption) | assumption)
        have q1 : x5_1 < (l0.length : Int) := of_decide_eq_true (by first | (with_reducible assumption) | assumption)
        obtain ⟨ad1, A1_0, c1_0, e1, hx1_0, hl1_0, hi1_0⟩ := at_L3 HR0.out x5_1 p1 q1
        cases e1
        have HR1_0 := Aside0.mk hi1_0
        have HC1_0 := Aside0.mk hl1_0
        clear hi1_0 hl1_0
        replace p1 := eq_true p1
        replace q1 := eq_true q1
        have p2 : 0 ≤ (x5_1 : Int) := of_decide_eq_true (by first | (with_reducible assumption) | assumption)
        have q2 : x5_1 < (l1.length : Int) := of_decide_eq_true (by first | (with_reducible assumption) | assumption)
        obtain ⟨ad2, A2_0, c2_0, e2, hx2_0, hl2_0, hi2_0⟩ := at_L3 HR1.out x5_1 p2 q2
        cases e2
        have HR2_0 := Aside0.mk hi2_0
        have HC2_0 := Aside0.mk hl2_0
        clear hi2_0 hl2_0
        replace p2 := eq_true p2
        replace q2 := eq_true q2
        go_wp2_with (first | (go_at_call 34; (with_reducible refine (narcissusref02_Same.calls k1 _ _ (rd_L3 l0 x5_1) _ _ (rd_L3 l1 x5_1) false _ ?side1 ?side2 ?side3 ?side4 A7.out).mono ?_); (case side1 => repeat (first | exact HR1_0.out | (with_reducible refine Kd.C_alloc ?_ _) | (with_reducible refine Kd.C_drewN ?_ _) | (with_reducible refine Kd.C_drew ?_))); (case side2 => exact HC1_0.out); (case side3 => repeat (first | exact HR2_0.out | (with_reducible refine Kd.C_alloc ?_ _) | (with_reducible refine Kd.C_drewN ?_ _) | (with_reducible refine Kd.C_drew ?_))); (case side4 => exact HC2_0.out); rintro e w' ⟨rfl, ⟨nd, rfl⟩⟩; (try first | exact ⟨rfl, _, World.drewN_drewN _ _ _⟩ | exact ⟨rfl, _, Eq.trans (World.drewN_drewN _ _ _) (congrArg (World.drewN _) (Nat.add_assoc _ _ _))⟩)))
        repeat (go_quiet (first | (go_at_call 34; (with_reducible refine (narcissusref02_Same.calls k1 _ _ (rd_L3 l0 x5_1) _ _ (rd_L3 l1 x5_1) false _ ?side1 ?side2 ?side3 ?side4 A7.out).mono ?_); (case side1 => repeat (first | exact HR1_0.out | (with_reducible refine Kd.C_alloc ?_ _) | (with_reducible refine Kd.C_drewN ?_ _) | (with_reducible refine Kd.C_drew ?_))); (case side2 => exact HC1_0.out); (case side3 => repeat (first | exact HR2_0.out | (with_reducible refine Kd.C_alloc ?_ _) | (with_reducible refine Kd.C_drewN ?_ _) | (with_reducible refine Kd.C_drew ?_))); (case side4 => exact HC2_0.out); rintro e w' ⟨rfl, ⟨nd, rfl⟩⟩; (try first | exact ⟨rfl, _, World.drewN_drewN _ _ _⟩ | exact ⟨rfl, _, Eq.trans (World.drewN_drewN _ _ _) (congrArg (World.drewN _) (Nat.add_assoc _ _ _))⟩))); try go_wp2_with (first | (go_at_call 34; (with_reducible refine (narcissusref02_Same.calls k1 _ _ (rd_L3 l0 x5_1) _ _ (rd_L3 l1 x5_1) false _ ?side1 ?side2 ?side3 ?side4 A7.out).mono ?_); (case side1 => repeat (first | exact HR1_0.out | (with_reducible refine Kd.C_alloc ?_ _) | (with_reducible refine Kd.C_drewN ?_ _) | (with_reducible refine Kd.C_drew ?_))); (case side2 => exact HC1_0.out); (case side3 => repeat (first | exact HR2_0.out | (with_reducible refine Kd.C_alloc ?_ _) | (with_reducible refine Kd.C_drewN ?_ _) | (with_reducible refine Kd.C_drew ?_))); (case side4 => exact HC2_0.out); rintro e w' ⟨rfl, ⟨nd, rfl⟩⟩; (try first | exact ⟨rfl, _, World.drewN_drewN _ _ _⟩ | exact ⟨rfl, _, Eq.trans (World.drewN_drewN _ _ _) (congrArg (World.drewN _) (Nat.add_assoc _ _ _))⟩))))
        go_ret
        exact ⟨by first | rfl | (simp; done) | (simp [*]; done) | (simp [show ∀ l : List UInt8, (l != []) = !l.isEmpty from fun l => by cases l <;> rfl]; done), by repeat (first | exact Drawn0.refl _ | apply Drawn0.step)⟩
      ·rw [if_neg c6] at H
       exact absurd H (by simp)
     ·rw [if_neg c5] at H
      exact absurd H (by simp)
    ·rw [if_neg c4] at H
     have c4b0 : decide (x5_1 < (l0.length : Int)) = false := decide_eq_false c4
     clear c4
     obtain rfl := Option.some.inj H
     go_wp2
     repeat (go_quiet (fail); try go_wp2)
     go_ret
     exact ⟨by first | rfl | (simp; done) | (simp [*]; done) | (simp [show ∀ l : List UInt8, (l != []) = !l.isEmpty from fun l => by cases l <;> rfl]; done), by repeat (first | exact Drawn0.refl _ | apply Drawn0.step)⟩
 ·rw [if_neg c3] at H
  have c3b0 : ((l0.length : Int) == (l1.length : Int)) = false := beq_eq_false_iff_ne.mpr c3
  have c3b1 : ((l0.length : Int) != (l1.length : Int)) = true := bne_iff_ne.mpr c3
  have c3b2 : (l0.length == l1.length) = false := by first | simpa using c3 | (simp at c3 ⊢; omega)
  obtain rfl := Option.some.inj H
  go_enter Tryz.func16, Tryz.ntmps16
  go_wp2
  repeat (go_quiet (fail); try go_wp2)
  go_ret
  exact ⟨by first | rfl | (simp; done) | (simp [*]; done) | (simp [show ∀ l : List UInt8, (l != []) = !l.isEmpty from fun l => by cases l <;> rfl]; done), by repeat (first | exact Drawn0.refl _ | apply Drawn0.step)⟩

end Go.Proofs.YtocoamgbpoommaaGreatDoor.C
end
section
/- What the reference's lists of codes and Together tell, and the programs of a ring. -/
namespace Go.Proofs.YtocoamgbpoommaaGreatDoor.Plain
open Go.Proofs.YtocoamgbpoommaaGreatDoor.C
open Go.RowKit Go.Proofs.YtocoamgbpoommaaGreatDoorW.PrintWords Go.Proofs.YtocoamgbpoommaaGreatDoorW.PrintLast Go.Proofs.YtocoamgbpoommaaGreatDoorW.PrintMore
set_option linter.unusedVariables false
set_option linter.unusedSimpArgs false

theorem refTrees_tells {p : List Ins} (hp : p.length ≤ 4000) (hf : Fits p) (k : Nat) (hk : 4010 ≤ k) : narcissusref02_Trees.f k p = some ((sizes p : Nat) : Int) := by
  unfold narcissusref02_Trees.f
  have := trees_l p hp hf p.length k 0 0 rfl (Nat.zero_le _) (Nat.zero_le _) (by omega)
  rw [show ((0 : Nat) : Int) = 0 from rfl] at this
  rw [this, List.drop_zero, Nat.zero_add]
theorem refCoded_yes {p : List Ins} (h : OKP p) (k : Nat) (hk : 8100 ≤ k) : narcissusref07_Coded.f k p = some (bs (codeL p), decide ((codeL p).length ≤ 2000000)) := by
  have hs : sizes p ≤ 2000000 := h.2.1
  unfold narcissusref07_Coded.f narcissusref04_Fits.f
  rw [if_pos (by have := h.1; omega), refTrees_tells h.1 (okp_fits h) k (by omega), Option.bind_some, Option.bind_some, if_pos (by simpa using (by omega : ((sizes p : Nat) : Int) ≤ 2000000)), refCode_yes hk h, Option.bind_some, bs_size]
  congr 2
  exact decide_eq_decide.2 (by omega)
theorem refCoded_no {p : List Ins} (hv : VI p) (h : ¬ OKP p) (k : Nat) (hk : 8100 ≤ k) : narcissusref07_Coded.f k p = some (⟨#[]⟩, false) := by
  unfold narcissusref07_Coded.f narcissusref04_Fits.f
  by_cases h4 : p.length ≤ 4000
  · have hs : ¬ sizes p ≤ 2000000 := fun hs => h (okp_iff.2 ⟨h4, hs, hv⟩)
    rw [if_pos (by omega), refTrees_tells h4 (vi_fits hv) k (by omega), Option.bind_some, Option.bind_some, if_neg (by simpa using (by omega : ¬ ((sizes p : Nat) : Int) ≤ 2000000))]
  · rw [if_neg (by omega), Option.bind_some, if_neg (by decide)]
theorem refL_l (l : List (List Ins)) (hv : ∀ e ∈ l, VI e) (hl : l.length ≤ 1000) : ∀ (d k i n : Nat) (acc : List ByteArray), l.length - i = d → i ≤ l.length → d + 8200 < k → n ≤ 2000000 → acc.length ≤ i → (∀ s ∈ acc, s.size ≤ 2000000) →
    ((∀ e ∈ l.drop i, OKP e) ∧ n + lsum (l.drop i) ≤ 2000000 → narcissusref08_list.l0 k l acc (n : Int) (i : Int) = some (bs (lst (acc.map bl ++ (l.drop i).map codeL)), true)) ∧
    (¬ ((∀ e ∈ l.drop i, OKP e) ∧ n + lsum (l.drop i) ≤ 2000000) → narcissusref08_list.l0 k l acc (n : Int) (i : Int) = some (⟨#[]⟩, false))
  | d, k, i, n, acc, hd, hi, hk, hn, ha, hz => by
    obtain ⟨k, rfl⟩ : ∃ m, k = m + 1 := ⟨k - 1, by omega⟩
    by_cases hlt : i < l.length
    · have hdrop : l.drop i = l[i] :: l.drop (i + 1) := List.drop_eq_getElem_cons hlt
      have hvi := hv l[i] (List.getElem_mem hlt)
      rw [narcissusref08_list.l0, if_pos (by omega), if_pos (by omega), rd_prg l i hlt, hdrop]
      by_cases hok : OKP l[i]
      · have hsm := codeL_small hok
        rw [refCoded_yes hok k (by omega), Option.bind_some]
        by_cases hc : (codeL l[i]).length ≤ 2000000
        · rw [if_pos (decide_eq_true hc)]
          simp only [bs_size]
          rw [show wrap64 ((n : Int) + 1) = (n : Int) + 1 from wrap_small (by omega) (by omega), show wrap64 ((n : Int) + 1 + ((codeL l[i]).length : Int)) = (n : Int) + 1 + ((codeL l[i]).length : Int) from wrap_small (by omega) (by omega)]
          by_cases hb : (n : Int) + 1 + ((codeL l[i]).length : Int) > 2000000
          · rw [if_pos hb]
            refine ⟨fun h => ?_, fun _ => rfl⟩
            have := h.2
            simp only [lsum] at this
            omega
          · rw [if_neg hb, if_pos (by omega), wrap_small (by omega) (by omega), show (n : Int) + 1 + ((codeL l[i]).length : Int) = ((n + 1 + (codeL l[i]).length : Nat) : Int) from by omega, show (i : Int) + 1 = ((i + 1 : Nat) : Int) from rfl]
            obtain ⟨h1, h2⟩ := refL_l l hv hl (l.length - (i + 1)) k (i + 1) (n + 1 + (codeL l[i]).length) (acc ++ [bs (codeL l[i])]) rfl (by omega) (by omega) (by omega) (by rw [List.length_append, List.length_singleton]; omega) (fun s hs => by
              rcases List.mem_append.1 hs with hs | hs
              · exact hz s hs
              · rw [List.mem_singleton.1 hs, bs_size]; exact hc)
            constructor
            · rintro ⟨g1, g2⟩
              simp only [lsum] at g2
              rw [h1 ⟨fun e he => g1 e (List.mem_cons_of_mem _ he), by omega⟩, List.map_append, List.append_assoc]
              show some (bs (lst (acc.map bl ++ ([bl (bs (codeL l[i]))] ++ (l.drop (i + 1)).map codeL))), true) = _
              rw [bl_bs]
              rfl
            · intro hno
              refine h2 fun g => hno ⟨fun e he => ?_, ?_⟩
              · rcases List.mem_cons.1 he with rfl | he
                · exact hok
                · exact g.1 e he
              · have := g.2
                simp only [lsum]
                omega
        · rw [if_neg (by simpa using hc)]
          refine ⟨fun h => ?_, fun _ => rfl⟩
          have := h.2
          simp only [lsum] at this
          omega
      · rw [refCoded_no hvi hok k (by omega), Option.bind_some, if_neg (by decide)]
        exact ⟨fun h => absurd (h.1 _ List.mem_cons_self) hok, fun _ => rfl⟩
    · rw [narcissusref08_list.l0, if_neg (by omega), List.drop_eq_nil_of_le (by omega), refList_tells acc (fun s hs => by have := hz s hs; omega) (by omega) k (by omega), Option.bind_some]
      refine ⟨fun _ => by rw [List.map_nil, List.append_nil], fun h => absurd ⟨fun e he => (by cases he), by simp only [lsum]; omega⟩ h⟩
  termination_by d => d
theorem refL_yes {l : List (List Ins)} (hl : l.length ≤ 1000) (h : GoodL l) (k : Nat) (hk : 10000 ≤ k) : narcissusref08_list.f k l = some (bs (tabL l), true) := by
  unfold narcissusref08_list.f
  exact (refL_l l (fun e he => (okp_iff.1 (h.1 e he)).2.2) hl l.length k 0 1 [] rfl (by omega) (by omega) (by omega) (by simp) (fun s hs => by cases hs)).1 ⟨by simpa using h.1, by have := h.2; rw [List.drop_zero]; omega⟩
theorem refL_no {l : List (List Ins)} (hl : l.length ≤ 1000) (hv : ∀ e ∈ l, VI e) (h : ¬ GoodL l) (k : Nat) (hk : 10000 ≤ k) : narcissusref08_list.f k l = some (⟨#[]⟩, false) := by
  unfold narcissusref08_list.f
  refine (refL_l l hv hl l.length k 0 1 [] rfl (by omega) (by omega) (by omega) (by simp) (fun s hs => by cases hs)).2 fun g => h ⟨by simpa using g.1, ?_⟩
  have := g.2
  rw [List.drop_zero] at this
  omega
theorem refSpec_tells (r : List Ins) (y : ByteArray) (h : r.length ≤ 1000000) : narcissusref05_Spec.f r y = some (specHead y ++ r) := by
  unfold narcissusref05_Spec.f narcissusref05_head.f
  rw [Option.bind_some, if_pos (by simp only [List.length_cons, List.length_nil]; omega)]
  rfl
theorem refT_l1 (l rs : List (List Ins)) (y : ByteArray) (hrs : rs.length = l.length) (hl : l.length ≤ 1000) (hr : ∀ r ∈ rs, r.length ≤ 1000000) : ∀ (d k i : Nat) (acc : List (List Ins)), l.length - i = d → i ≤ l.length → d < k → acc.length = i →
    narcissusref08_Together.l1 k l rs acc y (i : Int) = (narcissusref08_list.f (k - d - 1) (acc ++ (rs.drop i).map fun r => specHead y ++ r)).bind fun bt17 => (if bt17.2 = true then (some (acc ++ (rs.drop i).map fun r => specHead y ++ r, true)) else (some (([] : List (List Ins)), false)))
  | d, k, i, acc, hd, hi, hk, ha => by
    obtain ⟨k, rfl⟩ : ∃ m, k = m + 1 := ⟨k - 1, by omega⟩
    by_cases hlt : i < l.length
    · have hdrop : rs.drop i = rs[i]'(by omega) :: rs.drop (i + 1) := List.drop_eq_getElem_cons (by omega)
      rw [narcissusref08_Together.l1, if_pos (by omega), if_pos (by omega), if_pos (by omega), rd_prg rs i (by omega), refSpec_tells _ y (hr _ (List.getElem_mem _)), Option.bind_some, if_pos (by omega), wrap_small (by omega) (by omega), show (i : Int) + 1 = ((i + 1 : Nat) : Int) from rfl]
      rw [refT_l1 l rs y hrs hl hr (l.length - (i + 1)) k (i + 1) _ rfl (by omega) (by omega) (by rw [List.length_append, List.length_singleton]; omega), hdrop]
      rw [show k + 1 - d - 1 = k - (l.length - (i + 1)) - 1 from by omega]
      simp only [List.map_cons, List.append_assoc, List.singleton_append]
    · rw [narcissusref08_Together.l1, if_neg (by omega), List.drop_eq_nil_of_le (by omega), List.map_nil, List.append_nil, show k + 1 - d - 1 = k from by omega]
  termination_by d => d
theorem refT_l0 (l : List (List Ins)) (hl : l.length ≤ 1000) (hp : ∀ p ∈ l, p.length ≤ 4000) : ∀ (d k i : Nat) (acc : List (List Ins)), l.length - i = d → i ≤ l.length → d < k → acc.length = i →
    narcissusref08_Together.l0 k l acc (i : Int) = (narcissusref08_list.f (k - d - 1) (acc ++ behind (l.drop i))).bind fun bt8 => (if bt8.2 = true then (narcissusref08_Together.l1 (k - d - 1) l (acc ++ behind (l.drop i)) ([] : List (List Ins)) bt8.1 0) else (some (([] : List (List Ins)), false)))
  | d, k, i, acc, hd, hi, hk, ha => by
    obtain ⟨k, rfl⟩ : ∃ m, k = m + 1 := ⟨k - 1, by omega⟩
    by_cases hlt : i < l.length
    · have hdrop : l.drop i = l[i] :: l.drop (i + 1) := List.drop_eq_getElem_cons hlt
      have h4 := hp l[i] (List.getElem_mem hlt)
      rw [narcissusref08_Together.l0, if_pos (by omega), if_pos (by omega), rd_prg l i hlt, show narcissusref08_Behind.f l[i] = some (ringHead ++ l[i]) from if_pos (by omega), Option.bind_some, if_pos (by omega), wrap_small (by omega) (by omega), show (i : Int) + 1 = ((i + 1 : Nat) : Int) from rfl]
      rw [refT_l0 l hl hp (l.length - (i + 1)) k (i + 1) _ rfl (by omega) (by omega) (by rw [List.length_append, List.length_singleton]; omega), hdrop]
      rw [show k + 1 - d - 1 = k - (l.length - (i + 1)) - 1 from by omega]
      unfold behind
      simp only [List.map_cons, List.append_assoc, List.singleton_append]
    · rw [narcissusref08_Together.l0, if_neg (by omega), List.drop_eq_nil_of_le (by omega), show k + 1 - d - 1 = k from by omega]
      simp [behind]
  termination_by d => d
theorem vi_behind {l : List (List Ins)} (h : ∀ p ∈ l, OKP p) : ∀ r ∈ behind l, VI r := by
  intro r hr
  obtain ⟨p, hp, rfl⟩ := List.mem_map.1 hr
  exact vi_append vi_ringHead (okp_iff.1 (h p hp)).2.2
theorem vi_made {rs : List (List Ins)} (h : GoodL rs) : ∀ e ∈ madeL rs, VI e := by
  intro e he
  obtain ⟨r, hr, rfl⟩ := List.mem_map.1 he
  exact vi_append (vi_specHead (validT_tab h)) (okp_iff.1 (h.1 r hr)).2.2
theorem behind_len {l : List (List Ins)} (h : ∀ p ∈ l, OKP p) : ∀ r ∈ behind l, r.length ≤ 1000000 := by
  intro r hr
  obtain ⟨p, hp, rfl⟩ := List.mem_map.1 hr
  have := (h p hp).1
  rw [List.length_append, ringHead_length]
  omega
theorem refT_form {l : List (List Ins)} (h : ∀ p ∈ l, OKP p) (hl : l.length ≤ 1000) (k : Nat) (hk : 14000 ≤ k) : (Fine l → narcissusref08_Together.f k l = some (madeL (behind l), true)) ∧ (¬ Fine l → narcissusref08_Together.f k l = some ([], false)) := by
  have e0 := refT_l0 l hl (fun p hp => (h p hp).1) l.length k 0 [] rfl (Nat.zero_le _) (by omega) rfl
  rw [show ((0 : Nat) : Int) = 0 from rfl, List.drop_zero, List.nil_append] at e0
  have hb : (behind l).length = l.length := by unfold behind; rw [List.length_map]
  unfold narcissusref08_Together.f
  rw [e0]
  by_cases h1 : GoodL (behind l)
  · have e1 := refT_l1 l (behind l) (bs (tabL (behind l))) hb hl (behind_len h) l.length (k - l.length - 1) 0 [] rfl (Nat.zero_le _) (by omega) rfl
    rw [show ((0 : Nat) : Int) = 0 from rfl, List.drop_zero, List.nil_append] at e1
    have em : (behind l).map (fun r => specHead (bs (tabL (behind l))) ++ r) = madeL (behind l) := rfl
    have hm : (madeL (behind l)).length ≤ 1000 := by unfold madeL; rw [List.length_map, hb]; exact hl
    rw [refL_yes (by omega) h1 _ (by omega), Option.bind_some]
    simp only [if_true]
    rw [e1, em]
    constructor
    · intro hf
      rw [refL_yes hm hf.2 _ (by omega)]
      rfl
    · intro hf
      rw [refL_no hm (vi_made h1) (fun g => hf ⟨h1, g⟩) _ (by omega)]
      rfl
  · rw [refL_no (by omega) (vi_behind h) h1 _ (by omega)]
    exact ⟨fun hf => absurd hf.1 h1, fun _ => rfl⟩
end Go.Proofs.YtocoamgbpoommaaGreatDoor.Plain
end
section
/- Equal programs. -/
namespace Go.Proofs.YtocoamgbpoommaaGreatDoor.Plain
open Go.Proofs.YtocoamgbpoommaaGreatDoor.C
open Go.RowKit Go.Proofs.YtocoamgbpoommaaGreatDoorW.PrintWords Go.Proofs.YtocoamgbpoommaaGreatDoorW.PrintLast Go.Proofs.YtocoamgbpoommaaGreatDoorW.PrintMore
set_option linter.unusedVariables false
set_option linter.unusedSimpArgs false

theorem diff_tells (x y : Ins) : ((!(x.f0 == y.f0) || (!(x.f1 == y.f1) || (!(x.f2 == y.f2) || (!(x.f3 == y.f3) || (!(x.f4.toList == y.f4.toList)))))) = true) ↔ x ≠ y := by
  rw [toL, toL]
  constructor
  · intro h e
    subst e
    simp at h
  · intro h
    simp only [Bool.or_eq_true, Bool.not_eq_true', beq_eq_false_iff_ne]
    apply Classical.byContradiction
    intro hn
    simp only [not_or, Classical.not_not] at hn
    exact h (ins_eq hn.1 hn.2.1 hn.2.2.1 hn.2.2.2.1 hn.2.2.2.2)
theorem same_l (a b : List Ins) (hab : a.length = b.length) (ha : a.length ≤ 2932031007402) : ∀ (d k i : Nat), a.length - i = d → i ≤ a.length → d < k →
    ∃ v, narcissusref02_Same.l0 k a b (i : Int) = some v ∧ (v = true ↔ a.drop i = b.drop i)
  | d, k, i, hd, hi, hk => by
    obtain ⟨k, rfl⟩ : ∃ m, k = m + 1 := ⟨k - 1, by omega⟩
    by_cases hlt : i < a.length
    · have hltb : i < b.length := by omega
      have hda : a.drop i = a[i] :: a.drop (i + 1) := List.drop_eq_getElem_cons hlt
      have hdb : b.drop i = b[i] :: b.drop (i + 1) := List.drop_eq_getElem_cons hltb
      rw [narcissusref02_Same.l0, if_pos (by omega), if_pos (by omega), if_pos (by omega), rd_at a i hlt, rd_at b i hltb, hda, hdb]
      by_cases he : a[i] = b[i]
      · rw [if_neg (fun h => (diff_tells _ _).1 h he), wrap_small (by omega) (by omega), show (i : Int) + 1 = ((i + 1 : Nat) : Int) from rfl]
        obtain ⟨v, e, hv⟩ := same_l a b hab ha (a.length - (i + 1)) k (i + 1) rfl (by omega) (by omega)
        refine ⟨v, e, hv.trans ?_⟩
        rw [List.cons.injEq]
        exact ⟨fun h => ⟨he, h⟩, fun h => h.2⟩
      · rw [if_pos ((diff_tells _ _).2 he)]
        refine ⟨false, rfl, ?_⟩
        rw [List.cons.injEq]
        exact ⟨fun h => (by cases h), fun h => absurd h.1 he⟩
    · rw [narcissusref02_Same.l0, if_neg (by omega), List.drop_eq_nil_of_le (by omega), List.drop_eq_nil_of_le (by omega)]
      exact ⟨true, rfl, by simp⟩
  termination_by d => d
theorem same_tells (a b : List Ins) (ha : a.length ≤ 2932031007402) (k : Nat) (hk : a.length < k) : ∃ v, narcissusref02_Same.f k a b = some v ∧ (v = true ↔ a = b) := by
  unfold narcissusref02_Same.f
  by_cases h : (a.length : Int) = (b.length : Int)
  · rw [if_pos h]
    have := same_l a b (by omega) ha a.length k 0 rfl (by omega) hk
    simpa using this
  · rw [if_neg h]
    refine ⟨false, rfl, ?_⟩
    exact ⟨fun h => (by cases h), fun e => absurd (by rw [e]) h⟩
theorem same_yes (a : List Ins) (ha : a.length ≤ 2932031007402) (k : Nat) (hk : a.length < k) : narcissusref02_Same.f k a a = some true := by
  obtain ⟨v, e, hv⟩ := same_tells a a ha k hk
  rw [e, hv.2 rfl]
end Go.Proofs.YtocoamgbpoommaaGreatDoor.Plain
end
section
/- Programs that know each other: their first steps. -/
namespace Go.Proofs.YtocoamgbpoommaaGreatDoor.Plain
open Go.Proofs.YtocoamgbpoommaaGreatDoor.C
set_option linter.unusedVariables false
set_option linter.unusedSimpArgs false

/-! ### programs that know each other: what they do before they begin -/
abbrev zz : Ins := ⟨0, 0, 0, 0, ⟨#[]⟩⟩
def lit (l : List UInt8) : ByteArray := ⟨l.toArray⟩
theorem bl_lit (l : List UInt8) : bl (lit l) = l := by simp [lit]
/-- The first eleven registers; the others are nil. -/
def mk (a0 a1 a2 a3 a4 a5 a6 a7 a8 a9 a10 : Tr) : Rg
  | 0 => a0 | 1 => a1 | 2 => a2 | 3 => a3 | 4 => a4 | 5 => a5 | 6 => a6 | 7 => a7 | 8 => a8 | 9 => a9 | 10 => a10 | _ => .nil
section
variable (a0 a1 a2 a3 a4 a5 a6 a7 a8 a9 a10 v : Tr)
theorem init_mk : init a0 = mk a0 .nil .nil .nil .nil .nil .nil .nil .nil .nil .nil := by
  funext i; unfold init mk
  match i with
  | 0 | 1 | 2 | 3 | 4 | 5 | 6 | 7 | 8 | 9 | 10 => rfl
  | n + 11 => simp
theorem up0 : upd (mk a0 a1 a2 a3 a4 a5 a6 a7 a8 a9 a10) 0 v = mk v a1 a2 a3 a4 a5 a6 a7 a8 a9 a10 := by
  funext i; match i with | 0 | 1 | 2 | 3 | 4 | 5 | 6 | 7 | 8 | 9 | 10 | n + 11 => rfl
theorem up1 : upd (mk a0 a1 a2 a3 a4 a5 a6 a7 a8 a9 a10) 1 v = mk a0 v a2 a3 a4 a5 a6 a7 a8 a9 a10 := by
  funext i; match i with | 0 | 1 | 2 | 3 | 4 | 5 | 6 | 7 | 8 | 9 | 10 | n + 11 => rfl
theorem up2 : upd (mk a0 a1 a2 a3 a4 a5 a6 a7 a8 a9 a10) 2 v = mk a0 a1 v a3 a4 a5 a6 a7 a8 a9 a10 := by
  funext i; match i with | 0 | 1 | 2 | 3 | 4 | 5 | 6 | 7 | 8 | 9 | 10 | n + 11 => rfl
theorem up3 : upd (mk a0 a1 a2 a3 a4 a5 a6 a7 a8 a9 a10) 3 v = mk a0 a1 a2 v a4 a5 a6 a7 a8 a9 a10 := by
  funext i; match i with | 0 | 1 | 2 | 3 | 4 | 5 | 6 | 7 | 8 | 9 | 10 | n + 11 => rfl
theorem up4 : upd (mk a0 a1 a2 a3 a4 a5 a6 a7 a8 a9 a10) 4 v = mk a0 a1 a2 a3 v a5 a6 a7 a8 a9 a10 := by
  funext i; match i with | 0 | 1 | 2 | 3 | 4 | 5 | 6 | 7 | 8 | 9 | 10 | n + 11 => rfl
theorem up5 : upd (mk a0 a1 a2 a3 a4 a5 a6 a7 a8 a9 a10) 5 v = mk a0 a1 a2 a3 a4 v a6 a7 a8 a9 a10 := by
  funext i; match i with | 0 | 1 | 2 | 3 | 4 | 5 | 6 | 7 | 8 | 9 | 10 | n + 11 => rfl
theorem up6 : upd (mk a0 a1 a2 a3 a4 a5 a6 a7 a8 a9 a10) 6 v = mk a0 a1 a2 a3 a4 a5 v a7 a8 a9 a10 := by
  funext i; match i with | 0 | 1 | 2 | 3 | 4 | 5 | 6 | 7 | 8 | 9 | 10 | n + 11 => rfl
theorem up7 : upd (mk a0 a1 a2 a3 a4 a5 a6 a7 a8 a9 a10) 7 v = mk a0 a1 a2 a3 a4 a5 a6 v a8 a9 a10 := by
  funext i; match i with | 0 | 1 | 2 | 3 | 4 | 5 | 6 | 7 | 8 | 9 | 10 | n + 11 => rfl
theorem up8 : upd (mk a0 a1 a2 a3 a4 a5 a6 a7 a8 a9 a10) 8 v = mk a0 a1 a2 a3 a4 a5 a6 a7 v a9 a10 := by
  funext i; match i with | 0 | 1 | 2 | 3 | 4 | 5 | 6 | 7 | 8 | 9 | 10 | n + 11 => rfl
theorem up9 : upd (mk a0 a1 a2 a3 a4 a5 a6 a7 a8 a9 a10) 9 v = mk a0 a1 a2 a3 a4 a5 a6 a7 a8 v a10 := by
  funext i; match i with | 0 | 1 | 2 | 3 | 4 | 5 | 6 | 7 | 8 | 9 | 10 | n + 11 => rfl
theorem up10 : upd (mk a0 a1 a2 a3 a4 a5 a6 a7 a8 a9 a10) 10 v = mk a0 a1 a2 a3 a4 a5 a6 a7 a8 a9 v := by
  funext i; match i with | 0 | 1 | 2 | 3 | 4 | 5 | 6 | 7 | 8 | 9 | 10 | n + 11 => rfl
end
theorem ex_set (a : Int) (t : ByteArray) (r : Rg) : exec ⟨0, a, 0, 0, t⟩ r = some (1, upd r a.toNat (dec (bl t))) := rfl
theorem ex_move (a b : Int) (r : Rg) : exec ⟨1, a, b, 0, ⟨#[]⟩⟩ r = some (1, upd r a.toNat (r b.toNat)) := rfl
theorem ex_cons (a b c : Int) (r : Rg) (h : 1 + (r b.toNat).size + (r c.toNat).size ≤ 2000000) : exec ⟨2, a, b, c, ⟨#[]⟩⟩ r = some (1, upd r a.toNat (.cons (r b.toNat) (r c.toNat))) := by
  show (if 2000000 < 1 + (r b.toNat).size + (r c.toNat).size then none else some ((1 : Int), upd r a.toNat (.cons (r b.toNat) (r c.toNat)))) = _
  rw [if_neg (by omega)]
theorem ex_head (a b : Int) (r : Rg) : exec ⟨3, a, b, 0, ⟨#[]⟩⟩ r = some (1, upd r a.toNat (r b.toNat).hd) := rfl
theorem ex_tail (a b : Int) (r : Rg) : exec ⟨4, a, b, 0, ⟨#[]⟩⟩ r = some (1, upd r a.toNat (r b.toNat).tl) := rfl
theorem ex_jump (a b : Int) (r : Rg) : exec ⟨5, a, b, 0, ⟨#[]⟩⟩ r = some (if (r a.toNat).isNil = true then 1 else b, r) := rfl
theorem go1 {p : List Ins} {a a1 b : Int} {m : Nat} {r s t : Rg} (x : Ins) {d : Int} (hlt : a < (p.length : Int)) (hx : p.getD a.toNat zz = x) (he : exec x r = some (d, s)) (hd : a + d = a1) (h : Goes p m a1 s b t) : Goes p (m + 1) a r b t := by
  rw [Nat.add_comm m 1]
  subst hd
  exact (Goes.step (by omega) (by rw [hx]; exact he)).trans h
def t100 : Tr := .cons .nil .nil
def tSet (y : Tr) : Tr := .cons .nil (.cons t100 y)
def tPut : Tr := itemT ⟨2, 0, 1, 0, ⟨#[]⟩⟩
def tClear : Tr := itemT ⟨0, 1, 0, 0, ⟨#[48]⟩⟩
def cellT (y c : Tr) : Tr := .cons (tSet y) (.cons tPut (.cons tClear c))
theorem lstT_size : ∀ l : List Tr, (lstT l).size = 1 + (l.map fun t => t.size + 1).sum
  | [] => rfl
  | t :: l => by simp [lstT, Tr.size, lstT_size l]; omega
section
variable {P : List Ins} {y : ByteArray} (H : ∀ i, i < 33 → P.getD i zz = (specHead y ++ ringHead).getD i zz) (hlen : 33 ≤ P.length)
include H hlen
theorem loop_one (a0 a2 a3 a6 a7 : Tr) : ∀ (cs ds : List Tr) (a6 : Tr), (lstT cs).size + (lstT ds).size ≤ 2000000 →
    ∃ a6', Goes P (4 * cs.length + 1) 12 (mk a0 .nil a2 a3 (lstT cs) (lstT ds) a6 a7 .nil .nil .nil) 13 (mk a0 .nil a2 a3 .nil (lstT (cs.reverse ++ ds)) a6' a7 .nil .nil .nil) := by
  intro cs
  induction cs with
  | nil =>
    intro ds a6 hz
    refine ⟨a6, ?_⟩
    refine go1 ⟨5, 4, -3, 0, ⟨#[]⟩⟩ (by omega) (H 12 (by decide)) (ex_jump 4 (-3) _) (a1 := 13) rfl (Goes.refl _ _ _)
  | cons c cs ih =>
    intro ds a6 hz
    have hz' : 1 + c.size + (lstT cs).size + (lstT ds).size ≤ 2000000 := hz
    have := Tr.size_pos (lstT cs)
    obtain ⟨b6, hb⟩ := ih (c :: ds) c (by show _ + (1 + c.size + (lstT ds).size) ≤ _; omega)
    refine ⟨b6, ?_⟩
    rw [show 4 * (c :: cs).length + 1 = (4 * cs.length + 1) + 1 + 1 + 1 + 1 from by simp; omega]
    refine go1 ⟨5, 4, -3, 0, ⟨#[]⟩⟩ (by omega) (H 12 (by decide)) (ex_jump 4 (-3) _) (a1 := 9) rfl ?_
    refine go1 ⟨3, 6, 4, 0, ⟨#[]⟩⟩ (by omega) (H 9 (by decide)) (ex_head 6 4 _) (a1 := 10) rfl ?_
    refine go1 ⟨2, 5, 6, 5, ⟨#[]⟩⟩ (by omega) (H 10 (by decide)) (ex_cons 5 6 5 _ (by show 1 + c.size + (lstT ds).size ≤ _; omega)) (a1 := 11) rfl ?_
    refine go1 ⟨4, 4, 4, 0, ⟨#[]⟩⟩ (by omega) (H 11 (by decide)) (ex_tail 4 4 _) (a1 := 12) rfl ?_
    have e : ∀ v1 v2 v3, upd (upd (upd (mk a0 .nil a2 a3 (lstT (c :: cs)) (lstT ds) a6 a7 .nil .nil .nil) 6 v1) 5 v2) 4 v3 = mk a0 .nil a2 a3 v3 v2 v1 a7 .nil .nil .nil := fun v1 v2 v3 => by rw [up6, up5, up4]
    rw [List.reverse_cons, List.append_assoc]
    exact (congrArg (fun r => Goes P (4 * cs.length + 1) 12 r 13 _) (e _ _ _)).mpr hb
theorem loop_two (Y a2 a3 a7 : Tr) : ∀ (cs : List Tr) (ds : List Tr) (a6 : Tr), (lstT (cs.map (cellT Y))).size + (lstT ds).size ≤ 2000000 →
    ∃ a6', Goes P (7 * cs.length + 1) 24 (mk (lstT ds) .nil a2 a3 .nil (lstT cs) a6 a7 (tSet Y) tClear tPut) 25 (mk (lstT ((cs.map (cellT Y)).reverse ++ ds)) .nil a2 a3 .nil .nil a6' a7 (tSet Y) tClear tPut) := by
  intro cs
  induction cs with
  | nil =>
    intro ds a6 hz
    refine ⟨a6, ?_⟩
    refine go1 ⟨5, 5, -6, 0, ⟨#[]⟩⟩ (by omega) (H 24 (by decide)) (ex_jump 5 (-6) _) (a1 := 25) rfl (Goes.refl _ _ _)
  | cons c cs ih =>
    intro ds a6 hz
    have hz' : 1 + (cellT Y c).size + (lstT (cs.map (cellT Y))).size + (lstT ds).size ≤ 2000000 := hz
    have hc : (cellT Y c).size = 1 + (tSet Y).size + (1 + tPut.size + (1 + tClear.size + c.size)) := rfl
    have := Tr.size_pos (lstT (cs.map (cellT Y)))
    obtain ⟨b6, hb⟩ := ih (cellT Y c :: ds) (cellT Y c) (by show _ + (1 + (cellT Y c).size + (lstT ds).size) ≤ _; omega)
    refine ⟨b6, ?_⟩
    rw [show 7 * (c :: cs).length + 1 = (7 * cs.length + 1) + 1 + 1 + 1 + 1 + 1 + 1 + 1 from by simp; omega]
    refine go1 ⟨5, 5, -6, 0, ⟨#[]⟩⟩ (by omega) (H 24 (by decide)) (ex_jump 5 (-6) _) (a1 := 18) rfl ?_
    refine go1 ⟨3, 6, 5, 0, ⟨#[]⟩⟩ (by omega) (H 18 (by decide)) (ex_head 6 5 _) (a1 := 19) rfl ?_
    refine go1 ⟨2, 6, 9, 6, ⟨#[]⟩⟩ (by omega) (H 19 (by decide)) (ex_cons 6 9 6 _ (by show 1 + tClear.size + c.size ≤ _; omega)) (a1 := 20) rfl ?_
    refine go1 ⟨2, 6, 10, 6, ⟨#[]⟩⟩ (by omega) (H 20 (by decide)) (ex_cons 6 10 6 _ (by show 1 + tPut.size + (1 + tClear.size + c.size) ≤ _; omega)) (a1 := 21) rfl ?_
    refine go1 ⟨2, 6, 8, 6, ⟨#[]⟩⟩ (by omega) (H 21 (by decide)) (ex_cons 6 8 6 _ (by show 1 + (tSet Y).size + (1 + tPut.size + (1 + tClear.size + c.size)) ≤ _; omega)) (a1 := 22) rfl ?_
    refine go1 ⟨2, 0, 6, 0, ⟨#[]⟩⟩ (by omega) (H 22 (by decide)) (ex_cons 0 6 0 _ (by show 1 + (cellT Y c).size + (lstT ds).size ≤ _; omega)) (a1 := 23) rfl ?_
    refine go1 ⟨4, 5, 5, 0, ⟨#[]⟩⟩ (by omega) (H 23 (by decide)) (ex_tail 5 5 _) (a1 := 24) rfl ?_
    have e : ∀ v1 v2 v3 v4 v5 v6, upd (upd (upd (upd (upd (upd (mk (lstT ds) .nil a2 a3 .nil (lstT (c :: cs)) a6 a7 (tSet Y) tClear tPut) 6 v1) 6 v2) 6 v3) 6 v4) 0 v5) 5 v6 = mk v5 .nil a2 a3 .nil v6 v4 a7 (tSet Y) tClear tPut := fun v1 v2 v3 v4 v5 v6 => by rw [up6, up6, up6, up6, up0, up5]
    rw [List.map_cons, List.reverse_cons, List.append_assoc]
    exact (congrArg (fun r => Goes P (7 * cs.length + 1) 24 r 25 _) (e _ _ _ _ _ _)).mpr hb
/-- Before a program that knows the others begins, it makes the pair of the list of all codes and the input. -/
theorem ring_prefix (cs : List Tr) (hy : dec (bl y) = lstT cs) (x : Tr) (hne : cs ≠ []) (hz : 1 + (lstT (cs.map (cellT (lstT cs)))).size + x.size ≤ 2000000) :
    Goes P (24 + 11 * cs.length) 0 (init x) 33 (init (.cons (lstT (cs.map (cellT (lstT cs)))) x)) := by
  obtain ⟨c0, l0, rfl⟩ : ∃ c l, cs = c :: l := by cases cs with | nil => exact absurd rfl hne | cons c l => exact ⟨c, l, rfl⟩
  generalize hcs : c0 :: l0 = cs at *
  have hsz : (lstT cs).size + 12 ≤ (lstT (cs.map (cellT (lstT cs)))).size := by
    have h1 : (lstT (cs.map (cellT (lstT cs)))).size = 1 + (cellT (lstT cs) c0).size + (lstT (l0.map (cellT (lstT cs)))).size := by rw [← hcs]; rfl
    have h2 : (cellT (lstT cs) c0).size = 1 + (1 + 1 + (1 + t100.size + (lstT cs).size)) + (1 + tPut.size + (1 + tClear.size + c0.size)) := rfl
    have h3 : tPut.size = 13 := rfl
    have h4 : tClear.size = 7 := rfl
    omega
  have hx := Tr.size_pos x
  obtain ⟨b6, hb⟩ := loop_one H hlen Tr.nil (lstT cs) x .nil t100 cs [] .nil (by show _ + 1 ≤ _; omega)
  rw [List.append_nil] at hb
  have hrev : (lstT (cs.reverse.map (cellT (lstT cs)))).size = (lstT (cs.map (cellT (lstT cs)))).size := by
    rw [lstT_size, lstT_size, List.map_reverse, List.map_reverse, List.sum_reverse]
  obtain ⟨d6, hd⟩ := loop_two H hlen (lstT cs) (lstT cs) x t100 cs.reverse [] b6 (by rw [hrev]; show _ + 1 ≤ _; omega)
  rw [List.append_nil, List.map_reverse, List.reverse_reverse] at hd
  rw [init_mk, init_mk]
  have hn : 24 + 11 * cs.length = ((((7 * cs.reverse.length + 1) + 8) + 5) + (4 * cs.length + 1)) + 1 + 1 + 1 + 1 + 1 + 1 + 1 + 1 + 1 := by rw [List.length_reverse]; omega
  rw [hn]
  refine go1 ⟨0, 1, 0, 0, y⟩ (by omega) (H 0 (by decide)) (ex_set 1 y _) (a1 := 1) rfl ?_
  rw [show ((1 : Int).toNat) = 1 from rfl, up1, hy]
  refine go1 ⟨2, 0, 1, 0, ⟨#[]⟩⟩ (by omega) (H 1 (by decide)) (ex_cons 0 1 0 _ (by show 1 + (lstT cs).size + x.size ≤ _; omega)) (a1 := 2) rfl ?_
  rw [show ((0 : Int).toNat) = 0 from rfl, up0]
  refine go1 ⟨0, 1, 0, 0, ⟨#[48]⟩⟩ (by omega) (H 2 (by decide)) (ex_set 1 _ _) (a1 := 3) rfl ?_
  rw [show ((1 : Int).toNat) = 1 from rfl, up1]
  refine go1 ⟨3, 2, 0, 0, ⟨#[]⟩⟩ (by omega) (H 3 (by decide)) (ex_head 2 0 _) (a1 := 4) rfl ?_
  rw [show ((2 : Int).toNat) = 2 from rfl, up2]
  refine go1 ⟨4, 3, 0, 0, ⟨#[]⟩⟩ (by omega) (H 4 (by decide)) (ex_tail 3 0 _) (a1 := 5) rfl ?_
  rw [show ((3 : Int).toNat) = 3 from rfl, up3]
  refine go1 ⟨0, 0, 0, 0, ⟨#[48]⟩⟩ (by omega) (H 5 (by decide)) (ex_set 0 _ _) (a1 := 6) rfl ?_
  rw [show ((0 : Int).toNat) = 0 from rfl, up0]
  refine go1 ⟨1, 4, 2, 0, ⟨#[]⟩⟩ (by omega) (H 6 (by decide)) (ex_move 4 2 _) (a1 := 7) rfl ?_
  rw [show ((4 : Int).toNat) = 4 from rfl, up4]
  refine go1 ⟨0, 7, 0, 0, ⟨#[49, 48, 48]⟩⟩ (by omega) (H 7 (by decide)) (ex_set 7 _ _) (a1 := 8) rfl ?_
  rw [show ((7 : Int).toNat) = 7 from rfl, up7]
  refine go1 ⟨5, 7, 4, 0, ⟨#[]⟩⟩ (by omega) (H 8 (by decide)) (ex_jump 7 4 _) (a1 := 12) rfl ?_
  rw [Nat.add_comm]
  refine hb.trans ?_
  refine go1 ⟨2, 8, 7, 2, ⟨#[]⟩⟩ (by omega) (H 13 (by decide)) (ex_cons 8 7 2 _ (by show 1 + 3 + (lstT cs).size ≤ _; omega)) (a1 := 14) rfl ?_
  rw [show ((8 : Int).toNat) = 8 from rfl, up8]
  refine go1 ⟨2, 8, 1, 8, ⟨#[]⟩⟩ (by omega) (H 14 (by decide)) (ex_cons 8 1 8 _ (by show 1 + 1 + (1 + 3 + (lstT cs).size) ≤ _; omega)) (a1 := 15) rfl ?_
  rw [show ((8 : Int).toNat) = 8 from rfl, up8]
  refine go1 ⟨0, 9, 0, 0, ⟨#[49, 48, 49, 49, 48, 48, 48]⟩⟩ (by omega) (H 15 (by decide)) (ex_set 9 _ _) (a1 := 16) rfl ?_
  rw [show ((9 : Int).toNat) = 9 from rfl, up9]
  refine go1 ⟨0, 10, 0, 0, ⟨#[49, 49, 48, 49, 48, 48, 49, 48, 49, 49, 48, 48, 48]⟩⟩ (by omega) (H 16 (by decide)) (ex_set 10 _ _) (a1 := 17) rfl ?_
  rw [show ((10 : Int).toNat) = 10 from rfl, up10]
  refine go1 ⟨5, 7, 7, 0, ⟨#[]⟩⟩ (by omega) (H 17 (by decide)) (ex_jump 7 7 _) (a1 := 24) rfl ?_
  refine Goes.trans (n := 8) (m := 7 * cs.reverse.length + 1) hd ?_
  refine go1 ⟨2, 0, 0, 3, ⟨#[]⟩⟩ (by omega) (H 25 (by decide)) (ex_cons 0 0 3 _ hz) (a1 := 26) rfl ?_
  rw [show ((0 : Int).toNat) = 0 from rfl, up0]
  refine go1 ⟨0, 2, 0, 0, ⟨#[48]⟩⟩ (by omega) (H 26 (by decide)) (ex_set 2 _ _) (a1 := 27) rfl ?_
  rw [show ((2 : Int).toNat) = 2 from rfl, up2]
  refine go1 ⟨0, 3, 0, 0, ⟨#[48]⟩⟩ (by omega) (H 27 (by decide)) (ex_set 3 _ _) (a1 := 28) rfl ?_
  rw [show ((3 : Int).toNat) = 3 from rfl, up3]
  refine go1 ⟨0, 6, 0, 0, ⟨#[48]⟩⟩ (by omega) (H 28 (by decide)) (ex_set 6 _ _) (a1 := 29) rfl ?_
  rw [show ((6 : Int).toNat) = 6 from rfl, up6]
  refine go1 ⟨0, 7, 0, 0, ⟨#[48]⟩⟩ (by omega) (H 29 (by decide)) (ex_set 7 _ _) (a1 := 30) rfl ?_
  rw [show ((7 : Int).toNat) = 7 from rfl, up7]
  refine go1 ⟨0, 8, 0, 0, ⟨#[48]⟩⟩ (by omega) (H 30 (by decide)) (ex_set 8 _ _) (a1 := 31) rfl ?_
  rw [show ((8 : Int).toNat) = 8 from rfl, up8]
  refine go1 ⟨0, 9, 0, 0, ⟨#[48]⟩⟩ (by omega) (H 31 (by decide)) (ex_set 9 _ _) (a1 := 32) rfl ?_
  rw [show ((9 : Int).toNat) = 9 from rfl, up9]
  refine go1 ⟨0, 10, 0, 0, ⟨#[48]⟩⟩ (by omega) (H 32 (by decide)) (ex_set 10 _ _) (a1 := 33) rfl ?_
  rw [show ((10 : Int).toNat) = 10 from rfl, up10]
  exact Goes.refl _ _ _
end
end Go.Proofs.YtocoamgbpoommaaGreatDoor.Plain
end
