/- Texts of this claim, together: what the functions return, and what they say in plain words. -/
import Derived.Test.YtocoamgbpoommaaGreatDoorUB
import Derived.Test.YtocoamgbpoommaaGreatDoorUQ
import Derived.Test.YtocoamgbpoommaaGreatDoorUD
import Derived.Test.YtocoamgbpoommaaGreatDoorUAB
import Derived.Test.YtocoamgbpoommaaGreatDoorUAD
section
namespace Go.Proofs.YtocoamgbpoommaaGreatDoor.C
open Go.RowKit Go.Proofs.YtocoamgbpoommaaGreatDoorW.PrintWords Go.Proofs.YtocoamgbpoommaaGreatDoorW.PrintLast Go.Proofs.YtocoamgbpoommaaGreatDoorW.PrintMore
attribute [local go_sem] max2_int min2_int max_two min_two max_three min_three max_four min_four
set_option linter.unusedVariables false
set_option linter.unusedSimpArgs false

/-! ### narcissusref07_Small: function 10 -/
def narcissusref07_Small.l0 : Nat → Int → List (List (S72)) → Int → Int → Option (Bool)
 | 0, _, _, _, _ => none
 | k + 1, x0, x1, x5, x6 => if x6 < (x1.length : Int) then (if 0 ≤ x6 then (if (wrap64 ((wrap64 (x5 + 1)) + ((rd_L3 x1 x6).length : Int))) > x0 then (some false) else ((narcissusref02_Trees.f k (rd_L3 x1 x6)).bind fun t3 => (narcissusref07_Small.l0 k x0 x1 (wrap64 ((wrap64 ((wrap64 (x5 + 1)) + ((rd_L3 x1 x6).length : Int))) + t3)) (wrap64 (x6 + 1))))) else (none)) else (some (decide (x5 ≤ x0)))
def narcissusref07_Small.f (k : Nat) (a0 : Int) (l1 : List (List (S72))) : Option (Bool) := narcissusref07_Small.l0 k a0 l1 0 0
theorem narcissusref07_Small.mono_l : ∀ k, (∀ y0 y1 y2 y3, LeO (narcissusref07_Small.l0 k y0 y1 y2 y3) (narcissusref07_Small.l0 (k + 1) y0 y1 y2 y3))
 | 0 => fun _ _ _ _ r h => by simp [narcissusref07_Small.l0] at h
 | k + 1 => by
  have ih0 := narcissusref07_Small.mono_l k
  ·intro y0 y1 y2 y3
   unfold narcissusref07_Small.l0
   repeat' first
   | (with_reducible exact ih0 _ _ _ _)
   | (with_reducible exact narcissusref02_Trees.mono _ _)
   | (with_reducible exact LeO.refl _)
   | (with_reducible exact LeO.none _)
   | (with_reducible refine LeO.ite ?_ ?_)
   | (with_reducible refine LeO.bind ?_ (fun _ => ?_))
   | exact ih0 _ _ _ _
   | exact narcissusref02_Trees.mono _ _
   | exact LeO.none _
   | refine LeO.ite ?_ ?_
   | refine LeO.bind ?_ (fun _ => ?_)
theorem narcissusref07_Small.mono : ∀ a0 a1 k, LeO (narcissusref07_Small.f k a0 a1) (narcissusref07_Small.f (k + 1) a0 a1) := by
 intro a0 a1 k
 have ih0 := narcissusref07_Small.mono_l k
 unfold narcissusref07_Small.f
 repeat' first
   | (with_reducible exact ih0 _ _ _ _)
   | (with_reducible exact narcissusref02_Trees.mono _ _)
   | (with_reducible exact LeO.refl _)
   | (with_reducible exact LeO.none _)
   | (with_reducible refine LeO.ite ?_ ?_)
   | (with_reducible refine LeO.bind ?_ (fun _ => ?_))
   | exact ih0 _ _ _ _
   | exact narcissusref02_Trees.mono _ _
   | exact LeO.none _
   | refine LeO.ite ?_ ?_
   | refine LeO.bind ?_ (fun _ => ?_)
set_option maxHeartbeats 8000000 in
set_option maxRecDepth 100000 in
theorem narcissusref07_Small.calls (k : Nat) (a0 : Int) (A1 : Option Addr) (c1 : Nat) (l1 : List (List (S72))) (r : Bool) (w : World) (hr1 : Kd.C (Kd.slice 72 k72) w A1 l1.length l1) (hc1 : l1.length ≤ c1) (h : narcissusref07_Small.f k a0 l1 = some r) :
  Calls Tryz.prog 10 #[.int .i64 a0, .slice A1 l1.length c1] w fun e w' => e = .returned (.bool r) ∧ Drawn0 w w' := by
 have HR1 := Aside0.mk hr1
 have HC1 := Aside0.mk hc1
 clear hr1 hc1
 have H : (narcissusref07_Small.l0 k a0 l1 0 0) = some r := h
 clear h
 have H' := Aside0.mk H
 clear H
 go_enter Tryz.func10, Tryz.ntmps10
 go_wp2
 go_loopg [5, 6] k (fun kq v5 v6 w' => ∃ (x5_1 : Int) (x6_1 : Int), v5 = .int .i64 x5_1 ∧ v6 = .int .i64 x6_1 ∧ Aside0 (narcissusref07_Small.l0 kq a0 l1 x5_1 x6_1 = some r) ∧ Aside0 (kq ≤ k) ∧ Drawn0 w w')
 case atStart => exact ⟨(0), (0), (by first | rfl | (simp; done) | (simp [*]; done)), (by first | rfl | (simp; done) | (simp [*]; done)), H', ⟨Nat.le_refl _⟩, by repeat (first | exact Drawn0.refl _ | apply Drawn0.step)⟩
 case round =>
  clear H'
  try clear c1
  try clear p2
  obtain ⟨x5_1, x6_1, rfl, rfl, HA, HK1, ⟨m1, rfl⟩⟩ := hrel
  cases gk with
  | zero => exact absurd HA.out (by simp [narcissusref07_Small.l0])
  | succ k1 =>
   have H := HA.out
   clear HA
   simp only [narcissusref07_Small.l0] at H
   by_cases c3 : x6_1 < (l1.length : Int)
   ·rw [if_pos c3] at H
    have c3b0 : decide (x6_1 < (l1.length : Int)) = true := decide_eq_true c3
    clear c3
    by_cases c4 : 0 ≤ x6_1
    ·rw [if_pos c4] at H
     have c4b0 : decide (0 ≤ x6_1) = true := decide_eq_true c4
     clear c4
     by_cases c5 : (wrap64 ((wrap64 (x5_1 + 1)) + ((rd_L3 l1 x6_1).length : Int))) > a0
     ·rw [if_pos c5] at H
      have c5b0 : decide (a0 < (wrap64 ((wrap64 (x5_1 + 1)) + ((rd_L3 l1 x6_1).length : Int)))) = true := decide_eq_true c5
      clear c5
      obtain rfl := Option.some.inj H
      have p1 : 0 ≤ (x6_1 : Int) := of_decide_eq_true (by first | (with_reducible assumption) | assumption)
      have q1 : x6_1 < (l1.length : Int) := of_decide_eq_true (by first | (with_reducible assumption) | assumption)
      obtain ⟨ad1, A1_0, c1_0, e1, hx1_0, hl1_0, hi1_0⟩ := at_L3 HR1.out x6_1 p1 q1
      cases e1
      have HR1_0 := Aside0.mk hi1_0
      have HC1_0 := Aside0.mk hl1_0
      clear hi1_0 hl1_0
      replace p1 := eq_true p1
      replace q1 := eq_true q1
      go_wp2
      go_ret
      exact ⟨by first | rfl | (simp; done) | (simp [*]; done) | (simp [show ∀ l : List UInt8, (l != []) = !l.isEmpty from fun l => by cases l <;> rfl]; done), by repeat (first | exact Drawn0.refl _ | apply Drawn0.step)⟩
     ·rw [if_neg c5] at H
      have c5b0 : decide (a0 < (wrap64 ((wrap64 (x5_1 + 1)) + ((rd_L3 l1 x6_1).length : Int)))) = false := decide_eq_false c5
      clear c5
      replace H := Option.bind_eq_some_iff.mp H
      obtain ⟨t3, A60, H⟩ := H
      replace H : (narcissusref07_Small.l0 k1 a0 l1 (wrap64 ((wrap64 ((wrap64 (x5_1 + 1)) + ((rd_L3 l1 x6_1).length : Int))) + t3)) (wrap64 (x6_1 + 1))) = some r := H
      have A6 := Aside0.mk A60
      clear A60
      have H' := Aside0.mk H
      clear H
      have p1 : 0 ≤ (x6_1 : Int) := of_decide_eq_true (by first | (with_reducible assumption) | assumption)
      have q1 : x6_1 < (l1.length : Int) := of_decide_eq_true (by first | (with_reducible assumption) | assumption)
      obtain ⟨ad1, A1_0, c1_0, e1, hx1_0, hl1_0, hi1_0⟩ := at_L3 HR1.out x6_1 p1 q1
      cases e1
      have HR1_0 := Aside0.mk hi1_0
      have HC1_0 := Aside0.mk hl1_0
      clear hi1_0 hl1_0
      replace p1 := eq_true p1
      replace q1 := eq_true q1
      have p2 : 0 ≤ (x6_1 : Int) := of_decide_eq_true (by first | (with_reducible assumption) | assumption)
      have q2 : x6_1 < (l1.length : Int) := of_decide_eq_true (by first | (with_reducible assumption) | assumption)
      obtain ⟨ad2, A2_0, c2_0, e2, hx2_0, hl2_0, hi2_0⟩ := at_L3 HR1.out x6_1 p2 q2
      obtain rfl : ad1 = ad2 := (by injection e2)
      have HR2_0 := Aside0.mk hi2_0
      have HC2_0 := Aside0.mk hl2_0
      clear hi2_0 hl2_0
      replace p2 := eq_true p2
      replace q2 := eq_true q2
      have ea_ := Option.some.inj (hx1_0.symm.trans hx2_0)
      injection ea_ with ea_ en_ ec_
      subst ea_
      subst ec_
      clear en_
      go_wp2_with (first | ((with_reducible refine gate_callee (f := 36) rfl ?_); refine goesL_ (some 29) rfl rfl Tryz.func36 (by kernel_rfl) rfl #[.slice A1_0 (rd_L3 l1 x6_1).length c1_0] rfl (by (try simp only [List.map_toArray, List.map_cons, List.map_nil]); first | done | rfl | (simp only [List.length_drop, List.length_take]; rfl)) ?_; (with_reducible refine (narcissusref02_Trees.calls k1 _ _ (rd_L3 l1 x6_1) t3 _ ?side1 ?side2 A6.out).mono ?_); (case side1 => repeat (first | exact HR2_0.out | (with_reducible refine Kd.C_alloc ?_ _) | (with_reducible refine Kd.C_drewN ?_ _) | (with_reducible refine Kd.C_drew ?_))); (case side2 => exact HC2_0.out); rintro e w' ⟨rfl, ⟨nd, rfl⟩⟩; refine ⟨_, rfl, ?_⟩))
      go_roundg k1
      case measure => have := HK1.out; omega
      case rel => exact ⟨(wrap64 ((wrap64 ((wrap64 (x5_1 + 1)) + ((rd_L3 l1 x6_1).length : Int))) + t3)), (wrap64 (x6_1 + 1)), (by first | rfl | (simp; done) | (simp [*]; done)), (by first | rfl | (simp; done) | (simp [*]; done)), H', ⟨by have := HK1.out; omega⟩, by repeat (first | exact Drawn0.refl _ | apply Drawn0.step)⟩
    ·rw [if_neg c4] at H
     exact absurd H (by simp)
   ·rw [if_neg c3] at H
    have c3b0 : decide (x6_1 < (l1.length : Int)) = false := decide_eq_false c3
    clear c3
    obtain rfl := Option.some.inj H
    go_wp2
    go_ret
    exact ⟨by first | rfl | (simp; done) | (simp [*]; done) | (simp [show ∀ l : List UInt8, (l != []) = !l.isEmpty from fun l => by cases l <;> rfl]; done), by repeat (first | exact Drawn0.refl _ | apply Drawn0.step)⟩

end Go.Proofs.YtocoamgbpoommaaGreatDoor.C
end
section
namespace Go.Proofs.YtocoamgbpoommaaGreatDoor.C
open Go.RowKit Go.Proofs.YtocoamgbpoommaaGreatDoorW.PrintWords Go.Proofs.YtocoamgbpoommaaGreatDoorW.PrintLast Go.Proofs.YtocoamgbpoommaaGreatDoorW.PrintMore
attribute [local go_sem] max2_int min2_int max_two min_two max_three min_three max_four min_four
set_option linter.unusedVariables false
set_option linter.unusedSimpArgs false

/-! ### narcissuslaw08_RingDifferent: function 7 -/
mutual
def narcissuslaw08_RingDifferent.j0 : Nat → List (List (S72)) → List (List (S72)) → Bool → Option (Bool)
 | 0, _, _, _ => none
 | k + 1, x0, x1, x26 => if x26 = true then ((narcissuslaw08_awake.f k).bind fun t3 => (some t3)) else ((ring_Together.f k x0).bind fun bt4 => ((ring_Together.f k x1).bind fun bt8 => (if bt4.2 = 0 then (narcissuslaw08_RingDifferent.j1 k x0 x1 bt4.1 bt8.1 (bt8.2 != 0)) else (narcissuslaw08_RingDifferent.j1 k x0 x1 bt4.1 bt8.1 true))))
def narcissuslaw08_RingDifferent.j1 : Nat → List (List (S72)) → List (List (S72)) → List (List (S72)) → List (List (S72)) → Bool → Option (Bool)
 | 0, _, _, _, _, _ => none
 | k + 1, x0, x1, x5, x7, x43 => if x43 = true then ((narcissuslaw08_awake.f k).bind fun t12 => (some t12)) else ((narcissusref08_Same.f k x5 x7).bind fun t13 => ((narcissusref08_Same.f k x0 x1).bind fun t14 => (if (t13 == t14) = true then ((narcissuslaw08_awake.f k).bind fun t15 => (some t15)) else (some false))))
end
def narcissuslaw08_RingDifferent.f (k : Nat) (l0 : List (List (S72))) (l1 : List (List (S72))) : Option (Bool) := if (l0.length : Int) > 40 then (narcissuslaw08_RingDifferent.j0 k l0 l1 true) else (if (l1.length : Int) > 40 then (narcissuslaw08_RingDifferent.j0 k l0 l1 true) else ((narcissusref07_Small.f k 20000 l0).bind fun t1 => (if t1 = true then ((narcissusref07_Small.f k 20000 l1).bind fun t2 => (narcissuslaw08_RingDifferent.j0 k l0 l1 (!t2))) else (narcissuslaw08_RingDifferent.j0 k l0 l1 true))))
theorem narcissuslaw08_RingDifferent.mono_l : ∀ k, (∀ y0 y1 y2, LeO (narcissuslaw08_RingDifferent.j0 k y0 y1 y2) (narcissuslaw08_RingDifferent.j0 (k + 1) y0 y1 y2)) ∧ (∀ y0 y1 y2 y3 y4, LeO (narcissuslaw08_RingDifferent.j1 k y0 y1 y2 y3 y4) (narcissuslaw08_RingDifferent.j1 (k + 1) y0 y1 y2 y3 y4))
 | 0 => ⟨fun _ _ _ r h => by simp [narcissuslaw08_RingDifferent.j0] at h, fun _ _ _ _ _ r h => by simp [narcissuslaw08_RingDifferent.j1] at h⟩
 | k + 1 => by
  obtain ⟨ih0, ih1⟩ := narcissuslaw08_RingDifferent.mono_l k
  refine ⟨?_, ?_⟩
  ·intro y0 y1 y2
   unfold narcissuslaw08_RingDifferent.j0
   repeat' first
   | (with_reducible exact ih0 _ _ _)
   | (with_reducible exact ih1 _ _ _ _ _)
   | (with_reducible exact narcissuslaw08_awake.mono _)
   | (with_reducible exact narcissusref07_Small.mono _ _ _)
   | (with_reducible exact narcissusref08_Same.mono _ _ _)
   | (with_reducible exact ring_Together.mono _ _)
   | (with_reducible exact LeO.refl _)
   | (with_reducible exact LeO.none _)
   | (with_reducible refine LeO.ite ?_ ?_)
   | (with_reducible refine LeO.bind ?_ (fun _ => ?_))
   | exact ih0 _ _ _
   | exact ih1 _ _ _ _ _
   | exact narcissuslaw08_awake.mono _
   | exact narcissusref07_Small.mono _ _ _
   | exact narcissusref08_Same.mono _ _ _
   | exact ring_Together.mono _ _
   | exact LeO.none _
   | refine LeO.ite ?_ ?_
   | refine LeO.bind ?_ (fun _ => ?_)
  ·intro y0 y1 y2 y3 y4
   unfold narcissuslaw08_RingDifferent.j1
   repeat' first
   | (with_reducible exact ih0 _ _ _)
   | (with_reducible exact ih1 _ _ _ _ _)
   | (with_reducible exact narcissuslaw08_awake.mono _)
   | (with_reducible exact narcissusref07_Small.mono _ _ _)
   | (with_reducible exact narcissusref08_Same.mono _ _ _)
   | (with_reducible exact ring_Together.mono _ _)
   | (with_reducible exact LeO.refl _)
   | (with_reducible exact LeO.none _)
   | (with_reducible refine LeO.ite ?_ ?_)
   | (with_reducible refine LeO.bind ?_ (fun _ => ?_))
   | exact ih0 _ _ _
   | exact ih1 _ _ _ _ _
   | exact narcissuslaw08_awake.mono _
   | exact narcissusref07_Small.mono _ _ _
   | exact narcissusref08_Same.mono _ _ _
   | exact ring_Together.mono _ _
   | exact LeO.none _
   | refine LeO.ite ?_ ?_
   | refine LeO.bind ?_ (fun _ => ?_)
theorem narcissuslaw08_RingDifferent.mono : ∀ a0 a1 k, LeO (narcissuslaw08_RingDifferent.f k a0 a1) (narcissuslaw08_RingDifferent.f (k + 1) a0 a1) := by
 intro a0 a1 k
 obtain ⟨ih0, ih1⟩ := narcissuslaw08_RingDifferent.mono_l k
 unfold narcissuslaw08_RingDifferent.f
 repeat' first
   | (with_reducible exact ih0 _ _ _)
   | (with_reducible exact ih1 _ _ _ _ _)
   | (with_reducible exact narcissuslaw08_awake.mono _)
   | (with_reducible exact narcissusref07_Small.mono _ _ _)
   | (with_reducible exact narcissusref08_Same.mono _ _ _)
   | (with_reducible exact ring_Together.mono _ _)
   | (with_reducible exact LeO.refl _)
   | (with_reducible exact LeO.none _)
   | (with_reducible refine LeO.ite ?_ ?_)
   | (with_reducible refine LeO.bind ?_ (fun _ => ?_))
   | exact ih0 _ _ _
   | exact ih1 _ _ _ _ _
   | exact narcissuslaw08_awake.mono _
   | exact narcissusref07_Small.mono _ _ _
   | exact narcissusref08_Same.mono _ _ _
   | exact ring_Together.mono _ _
   | exact LeO.none _
   | refine LeO.ite ?_ ?_
   | refine LeO.bind ?_ (fun _ => ?_)
set_option maxHeartbeats 8000000 in
set_option maxRecDepth 100000 in
theorem narcissuslaw08_RingDifferent.calls (k : Nat) (A0 : Option Addr) (c0 : Nat) (l0 : List (List (S72))) (A1 : Option Addr) (c1 : Nat) (l1 : List (List (S72))) (r : Bool) (w : World) (hr0 : Kd.C (Kd.slice 72 k72) w A0 l0.length l0) (hc0 : l0.length ≤ c0) (hr1 : Kd.C (Kd.slice 72 k72) w A1 l1.length l1) (hc1 : l1.length ≤ c1) (hL : LaidW w) (h : narcissuslaw08_RingDifferent.f k l0 l1 = some r) :
  Calls Tryz.prog 7 #[.slice A0 l0.length c0, .slice A1 l1.length c1] w fun e w' => e = .returned (.bool r) ∧ Below w.heap.size w w' := by
 have HLD := Aside0.mk hL
 clear hL
 have HR0 := Aside0.mk hr0
 have HC0 := Aside0.mk hc0
 clear hr0 hc0
 have HR1 := Aside0.mk hr1
 have HC1 := Aside0.mk hc1
 clear hr1 hc1
 have HB := Aside0.mk (Below.refl w.heap.size w)
 have H : (if (l0.length : Int) > 40 then (narcissuslaw08_RingDifferent.j0 k l0 l1 true) else (if (l1.length : Int) > 40 then (narcissuslaw08_RingDifferent.j0 k l0 l1 true) else ((narcissusref07_Small.f k 20000 l0).bind fun t1 => (if t1 = true then ((narcissusref07_Small.f k 20000 l1).bind fun t2 => (narcissuslaw08_RingDifferent.j0 k l0 l1 (!t2))) else (narcissuslaw08_RingDifferent.j0 k l0 l1 true))))) = some r := h
 clear h
 have HC3 := Aside0.mk H
 clear H
 go_enter Tryz.func7, Tryz.ntmps7
 go_upto_region 1 with (fail)
 go_cut [26] (fun v26 wc => ∃ (kq : Nat) (x26_2 : Bool), v26 = .bool x26_2 ∧ Aside0 (narcissuslaw08_RingDifferent.j0 kq l0 l1 x26_2 = some r) ∧ Aside0 (kq ≤ k) ∧ Aside0 (Below w.heap.size w wc))
 case first =>
  have H := HC3.out
  clear HC3
  by_cases c4 : (l0.length : Int) > 40
  ·rw [if_pos c4] at H
   have c4b0 : decide (40 < (l0.length : Int)) = true := decide_eq_true c4
   have c4b1 : decide (40 < l0.length) = true := decide_eq_true (by omega)
   clear c4
   (first | rw [c4b0] | (simp only [i64_w, i32_w]; rw [c4b0]) | skip)
   have H' := Aside0.mk H
   clear H
   go_wp2
   go_meet
   case rel => exact ⟨_, (true), (by first | rfl | (simp; done) | (simp [*]; done)), H', ⟨by first | omega | exact Nat.le_refl _⟩, ⟨by repeat (first | (with_reducible first | exact HB.out | apply below_alloc | apply pw_below_drewN | apply below_drew1) | exact HB.out)⟩⟩
  ·rw [if_neg c4] at H
   have c4b0 : decide (40 < (l0.length : Int)) = false := decide_eq_false c4
   have c4b1 : decide (40 < l0.length) = false := decide_eq_false (by omega)
   clear c4
   (first | rw [c4b0] | (simp only [i64_w, i32_w]; rw [c4b0]) | skip)
   by_cases c5 : (l1.length : Int) > 40
   ·rw [if_pos c5] at H
    have c5b0 : decide (40 < (l1.length : Int)) = true := decide_eq_true c5
    have c5b1 : decide (40 < l1.length) = true := decide_eq_true (by omega)
    clear c5
    have H' := Aside0.mk H
    clear H
    go_wp2
    go_meet
    case rel => exact ⟨_, (true), (by first | rfl | (simp; done) | (simp [*]; done)), H', ⟨by first | omega | exact Nat.le_refl _⟩, ⟨by repeat (first | (with_reducible first | exact HB.out | apply below_alloc | apply pw_below_drewN | apply below_drew1) | exact HB.out)⟩⟩
   ·rw [if_neg c5] at H
    have c5b0 : decide (40 < (l1.length : Int)) = false := decide_eq_false c5
    have c5b1 : decide (40 < l1.length) = false := decide_eq_false (by omega)
    clear c5
    replace H := Option.bind_eq_some_iff.mp H
    obtain ⟨t1, A60, H⟩ := H
    replace H : (if t1 = true then ((narcissusref07_Small.f k 20000 l1).bind fun t2 => (narcissuslaw08_RingDifferent.j0 k l0 l1 (!t2))) else (narcissuslaw08_RingDifferent.j0 k l0 l1 true)) = some r := H
    have A6 := Aside0.mk A60
    clear A60
    by_cases c7 : t1 = true
    ·subst c7
     have H1 : ((narcissusref07_Small.f k 20000 l1).bind fun t2 => (narcissuslaw08_RingDifferent.j0 k l0 l1 (!t2))) = some r := by rw [if_pos rfl] at H; exact H
     clear H
     have H := H1
     clear H1
     replace H := Option.bind_eq_some_iff.mp H
     obtain ⟨t2, A80, H⟩ := H
     replace H : (narcissuslaw08_RingDifferent.j0 k l0 l1 (!t2)) = some r := H
     have A8 := Aside0.mk A80
     clear A80
     have H' := Aside0.mk H
     clear H
     go_wp2_with (first | (go_at_call 10; (with_reducible refine (narcissusref07_Small.calls k 20000 _ _ l0 true _ ?side1 ?side2 A6.out).mono ?_); (case side1 => repeat (first | exact (Kd.C_below HR0.out HB.out) | (with_reducible refine Kd.C_alloc ?_ _) | (with_reducible refine Kd.C_drewN ?_ _) | (with_reducible refine Kd.C_drew ?_))); (case side2 => exact HC0.out); rintro e w' ⟨rfl, ⟨nd, rfl⟩⟩) | (go_at_call 10; (with_reducible refine (narcissusref07_Small.calls k 20000 _ _ l1 t2 _ ?side1 ?side2 A8.out).mono ?_); (case side1 => repeat (first | exact (Kd.C_below HR1.out (by repeat (first | (with_reducible first | exact HB.out | apply below_alloc | apply pw_below_drewN | apply below_drew1) | exact HB.out))) | (with_reducible refine Kd.C_alloc ?_ _) | (with_reducible refine Kd.C_drewN ?_ _) | (with_reducible refine Kd.C_drew ?_))); (case side2 => exact HC1.out); rintro e w' ⟨rfl, ⟨nd, rfl⟩⟩))
     go_meet
     case rel => exact ⟨_, (!t2), (by first | rfl | (simp; done) | (simp [*]; done)), H', ⟨by first | omega | exact Nat.le_refl _⟩, ⟨by repeat (first | (with_reducible first | exact HB.out | apply below_alloc | apply pw_below_drewN | apply below_drew1) | exact HB.out)⟩⟩
    ·replace c7 := Bool.eq_false_iff.mpr c7
     subst c7
     have H1 : (narcissuslaw08_RingDifferent.j0 k l0 l1 true) = some r := by rw [if_neg (show ¬ (false = true) by decide)] at H; exact H
     clear H
     have H := H1
     clear H1
     have H' := Aside0.mk H
     clear H
     go_wp2_with (first | (go_at_call 10; (with_reducible refine (narcissusref07_Small.calls k 20000 _ _ l0 false _ ?side1 ?side2 A6.out).mono ?_); (case side1 => repeat (first | exact (Kd.C_below HR0.out HB.out) | (with_reducible refine Kd.C_alloc ?_ _) | (with_reducible refine Kd.C_drewN ?_ _) | (with_reducible refine Kd.C_drew ?_))); (case side2 => exact HC0.out); rintro e w' ⟨rfl, ⟨nd, rfl⟩⟩))
     go_meet
     case rel => exact ⟨_, (true), (by first | rfl | (simp; done) | (simp [*]; done)), H', ⟨by first | omega | exact Nat.le_refl _⟩, ⟨by repeat (first | (with_reducible first | exact HB.out | apply below_alloc | apply pw_below_drewN | apply below_drew1) | exact HB.out)⟩⟩
 case rest =>
  clear HC3
  try clear c1
  try clear p2
  try clear c4
  try clear c4b0
  try clear c4b1
  try clear c5
  try clear c5b0
  try clear c5b1
  try clear c7
  obtain ⟨kq, x26_2, rfl, HA, HJ2, HB⟩ := hcut
  cases kq with
  | zero => exact absurd HA.out (by simp [narcissuslaw08_RingDifferent.j0])
  | succ kj2 =>
   have H := HA.out
   clear HA
   simp only [narcissuslaw08_RingDifferent.j0] at H
   by_cases c9 : x26_2 = true
   ·subst c9
    have H1 : ((narcissuslaw08_awake.f kj2).bind fun t3 => (some t3)) = some r := by rw [if_pos rfl] at H; exact H
    clear H
    have H := H1
    clear H1
    replace H := Option.bind_eq_some_iff.mp H
    obtain ⟨t3, A100, H⟩ := H
    replace H : (some t3) = some r := H
    have A10 := Aside0.mk A100
    clear A100
    obtain rfl := Option.some.inj H
    go_wp2_with (first | ((with_reducible refine gate_callee (f := 11) rfl ?_); refine goesL_ (some 27) rfl rfl Tryz.func11 (by kernel_rfl) rfl #[] rfl (by (try simp only [List.map_toArray, List.map_cons, List.map_nil]); first | done | rfl | (simp only [List.length_drop, List.length_take]; rfl)) ?_; (with_reducible refine (narcissuslaw08_awake.calls kj2  t3 _ ?side1 A10.out).mono ?_); (case side1 => first | (refine LaidW.below HLD.out ?_; with_reducible exact HB.out) | (refine LaidW.below HLD.out ?_; with_reducible apply pw_below_drewN; with_reducible exact HB.out) | (refine LaidW.below HLD.out ?_; with_reducible apply below_alloc; with_reducible exact HB.out) | (refine LaidW.below HLD.out ?_; repeat (first | (with_reducible first | exact HB.out | apply below_alloc | apply pw_below_drewN | apply below_drew1) | exact HB.out); done) | exact HLD.out | (repeat (first | exact HLD.out | (with_reducible refine LaidW.drewN ?_ _) | (with_reducible refine LaidW.drew ?_) | (with_reducible refine LaidW.alloc ?_ _)))); rintro e w11 ⟨rfl, hb⟩; refine ⟨_, rfl, ?_⟩; have n0_ := Aside0.mk (below_step (by repeat (first | (with_reducible first | exact HB.out | apply below_alloc | apply pw_below_drewN | apply below_drew1) | exact HB.out)) hb); clear HB; have HB := n0_; clear n0_; (try clear hb); (try clear hb2); (try clear hk); (try clear hi)))
    go_ret
    exact ⟨by first | rfl | (simp [errW_none, errW_some] <;> rfl) | (simp [*, errW_none, errW_some] <;> rfl), by repeat (first | (with_reducible first | exact HB.out | apply below_alloc | apply pw_below_drewN | apply below_drew1) | exact HB.out)⟩
   ·replace c9 := Bool.eq_false_iff.mpr c9
    subst c9
    have H1 : ((ring_Together.f kj2 l0).bind fun bt4 => ((ring_Together.f kj2 l1).bind fun bt8 => (if bt4.2 = 0 then (narcissuslaw08_RingDifferent.j1 kj2 l0 l1 bt4.1 bt8.1 (bt8.2 != 0)) else (narcissuslaw08_RingDifferent.j1 kj2 l0 l1 bt4.1 bt8.1 true)))) = some r := by rw [if_neg (show ¬ (false = true) by decide)] at H; exact H
    clear H
    have H := H1
    clear H1
    replace H := Option.bind_eq_some_iff.mp H
    obtain ⟨⟨t4, t5⟩, A120, H⟩ := H
    replace H : ((ring_Together.f kj2 l1).bind fun bt8 => (if t5 = 0 then (narcissuslaw08_RingDifferent.j1 kj2 l0 l1 t4 bt8.1 (bt8.2 != 0)) else (narcissuslaw08_RingDifferent.j1 kj2 l0 l1 t4 bt8.1 true))) = some r := H
    have A12 := Aside0.mk A120
    clear A120
    replace H := Option.bind_eq_some_iff.mp H
    obtain ⟨⟨t8, t9⟩, A130, H⟩ := H
    replace H : (if t5 = 0 then (narcissuslaw08_RingDifferent.j1 kj2 l0 l1 t4 t8 (t9 != 0)) else (narcissuslaw08_RingDifferent.j1 kj2 l0 l1 t4 t8 true)) = some r := H
    have A13 := Aside0.mk A130
    clear A130
    have HC14 := Aside0.mk H
    clear H
    go_upto_region 5 with (first | ((with_reducible refine gate_callee (f := 15) rfl ?_); refine goesL_ (some 30) rfl rfl Tryz.func15 (by kernel_rfl) rfl #[.slice A0 l0.length c0] rfl (by (try simp only [List.map_toArray, List.map_cons, List.map_nil]); first | done | rfl | (simp only [List.length_drop, List.length_take]; rfl)) ?_; (with_reducible refine (ring_Together.calls kj2 _ _ l0 t4 t5 _ ?side1 ?side2 ?side3 A12.out).mono ?_); (case side1 => repeat (first | exact (Kd.C_below HR0.out HB.out) | (with_reducible refine Kd.C_alloc ?_ _) | (with_reducible refine Kd.C_drewN ?_ _) | (with_reducible refine Kd.C_drew ?_))); (case side2 => exact HC0.out); (case side3 => first | (refine LaidW.below HLD.out ?_; with_reducible exact HB.out) | (refine LaidW.below HLD.out ?_; with_reducible apply pw_below_drewN; with_reducible exact HB.out) | (refine LaidW.below HLD.out ?_; with_reducible apply below_alloc; with_reducible exact HB.out) | (refine LaidW.below HLD.out ?_; repeat (first | (with_reducible first | exact HB.out | apply below_alloc | apply pw_below_drewN | apply below_drew1) | exact HB.out); done) | exact HLD.out | (repeat (first | exact HLD.out | (with_reducible refine LaidW.drewN ?_ _) | (with_reducible refine LaidW.drew ?_) | (with_reducible refine LaidW.alloc ?_ _)))); rintro e w15 ⟨v6, rfl, ho0, hb⟩; refine ⟨_, rfl, ?_⟩; have n0_ := Aside0.mk (Kd.S_lower ho0 (below_size (by repeat (first | (with_reducible first | exact HB.out | apply below_alloc | apply pw_below_drewN | apply below_drew1) | exact HB.out)))); have n1_ := Aside0.mk (below_step (by repeat (first | (with_reducible first | exact HB.out | apply below_alloc | apply pw_below_drewN | apply below_drew1) | exact HB.out)) hb); clear HB; have HO7 := n0_; have HB := n1_; clear n0_ n1_; (try clear hb); (try clear hb2); (try clear hk); (try clear hi); (try clear ho0)) | ((with_reducible refine gate_callee (f := 15) rfl ?_); refine goesL_ (some 35) rfl rfl Tryz.func15 (by kernel_rfl) rfl #[.slice A1 l1.length c1] rfl (by (try simp only [List.map_toArray, List.map_cons, List.map_nil]); first | done | rfl | (simp only [List.length_drop, List.length_take]; rfl)) ?_; (with_reducible refine (ring_Together.calls kj2 _ _ l1 t8 t9 _ ?side1 ?side2 ?side3 A13.out).mono ?_); (case side1 => repeat (first | exact (Kd.C_below HR1.out HB.out) | (with_reducible refine Kd.C_alloc ?_ _) | (with_reducible refine Kd.C_drewN ?_ _) | (with_reducible refine Kd.C_drew ?_))); (case side2 => exact HC1.out); (case side3 => first | (refine LaidW.below HLD.out ?_; with_reducible exact HB.out) | (refine LaidW.below HLD.out ?_; with_reducible apply pw_below_drewN; with_reducible exact HB.out) | (refine LaidW.below HLD.out ?_; with_reducible apply below_alloc; with_reducible exact HB.out) | (refine LaidW.below HLD.out ?_; repeat (first | (with_reducible first | exact HB.out | apply below_alloc | apply pw_below_drewN | apply below_drew1) | exact HB.out); done) | exact HLD.out | (repeat (first | exact HLD.out | (with_reducible refine LaidW.drewN ?_ _) | (with_reducible refine LaidW.drew ?_) | (with_reducible refine LaidW.alloc ?_ _)))); rintro e w16 ⟨v10, rfl, ho0, hb⟩; refine ⟨_, rfl, ?_⟩; have n0_ := Aside0.mk (Kd.S_elder' (by (with_reducible repeat (first | apply Kd.S_alloc | apply Kd.S_drewN | apply Kd.S_drew)); exact HO7.out) (Kd.S_base ho0) hb); have n1_ := Aside0.mk (Kd.S_lower (Kd.S_new' ho0 (Kd.S_lt (by (with_reducible repeat (first | apply Kd.S_alloc | apply Kd.S_drewN | apply Kd.S_drew)); exact HO7.out))) (below_size (by repeat (first | (with_reducible first | exact HB.out | apply below_alloc | apply pw_below_drewN | apply below_drew1) | exact HB.out)))); have n2_ := Aside0.mk (below_step (by repeat (first | (with_reducible first | exact HB.out | apply below_alloc | apply pw_below_drewN | apply below_drew1) | exact HB.out)) hb); clear HO7; clear HB; have HO7 := n0_; have HO11 := n1_; have HB := n2_; clear n0_ n1_ n2_; (try clear hb); (try clear hb2); (try clear hk); (try clear hi); (try clear ho0)))
    (try simp only [Act.put, List.setIfInBounds_toArray, List.set_cons_zero, List.set_cons_succ])
    go_cut [43] (fun v43 wc => ∃ (kq : Nat) (x43_13 : Bool), v43 = .bool x43_13 ∧ Aside0 (narcissuslaw08_RingDifferent.j1 kq l0 l1 t4 t8 x43_13 = some r) ∧ Aside0 (kq ≤ kj2) ∧ Aside0 (Kd.S (Kd.slice 72 k72) 47 wc w.heap.size (fun k_ => some k_ ≠ (v10 : Value).ownBlock) v6 t4) ∧ Aside0 (Kd.S (Kd.slice 72 k72) 47 wc w.heap.size (fun k_ => some k_ ≠ (v6 : Value).ownBlock) v10 t8) ∧ Aside0 (Below w.heap.size w wc))
    case first =>
     have H := HC14.out
     clear HC14
     by_cases c17 : t5 = 0
     ·rw [if_pos c17] at H
      have c17b0 : (t5 == 0) = true := beq_iff_eq.mpr c17
      have c17b1 : (t5 != 0) = false := bne_eq_false_iff_eq.mpr c17
      clear c17
      (first | rw [c17b0] | (simp only [i64_w, i32_w]; rw [c17b0]) | skip)
      have H' := Aside0.mk H
      clear H
      go_wp2
      go_meet
      case rel => exact ⟨_, ((t9 != 0)), (by first | rfl | (simp; done) | (simp [*]; done)), H', ⟨by have := HJ2.out; first | omega | exact Nat.le_refl _⟩, ⟨by (with_reducible repeat (first | apply Kd.S_alloc | apply Kd.S_drewN | apply Kd.S_drew)); exact Kd.S_mono HO7.out (fun _ hk => hk.2)⟩, ⟨by (with_reducible repeat (first | apply Kd.S_alloc | apply Kd.S_drewN | apply Kd.S_drew)); exact Kd.S_mono HO11.out (fun _ hk => hk.2)⟩, ⟨by repeat (first | (with_reducible first | exact HB.out | apply below_alloc | apply pw_below_drewN | apply below_drew1) | exact HB.out)⟩⟩
     ·rw [if_neg c17] at H
      have c17b0 : (t5 == 0) = false := beq_eq_false_iff_ne.mpr c17
      have c17b1 : (t5 != 0) = true := bne_iff_ne.mpr c17
      (first | rw [c17b0] | (simp only [i64_w, i32_w]; rw [c17b0]) | skip)
      have H' := Aside0.mk H
      clear H
      go_wp2
      go_meet
      case rel => exact ⟨_, (true), (by first | rfl | (simp; done) | (simp [*]; done)), H', ⟨by have := HJ2.out; first | omega | exact Nat.le_refl _⟩, ⟨by (with_reducible repeat (first | apply Kd.S_alloc | apply Kd.S_drewN | apply Kd.S_drew)); exact Kd.S_mono HO7.out (fun _ hk => hk.2)⟩, ⟨by (with_reducible repeat (first | apply Kd.S_alloc | apply Kd.S_drewN | apply Kd.S_drew)); exact Kd.S_mono HO11.out (fun _ hk => hk.2)⟩, ⟨by repeat (first | (with_reducible first | exact HB.out | apply below_alloc | apply pw_below_drewN | apply below_drew1) | exact HB.out)⟩⟩
    case rest =>
     clear HC14
     try clear c1
     try clear p2
     try clear c4
     try clear c4b0
     try clear c4b1
     try clear c5
     try clear c5b0
     try clear c5b1
     try clear c7
     try clear c9
     try clear c11
     try clear c15
     try clear c17
     try clear c17b0
     try clear c17b1
     try clear p2
     obtain ⟨kq, x43_13, rfl, HA, HJ13, HO_5, HO_7, HB⟩ := hcut
     cases kq with
     | zero => exact absurd HA.out (by simp [narcissuslaw08_RingDifferent.j1])
     | succ kj13 =>
      have H := HA.out
      clear HA
      simp only [narcissuslaw08_RingDifferent.j1] at H
      by_cases c18 : x43_13 = true
      ·subst c18
       have H1 : ((narcissuslaw08_awake.f kj13).bind fun t12 => (some t12)) = some r := by rw [if_pos rfl] at H; exact H
       clear H
       have H := H1
       clear H1
       replace H := Option.bind_eq_some_iff.mp H
       obtain ⟨t12, A190, H⟩ := H
       replace H : (some t12) = some r := H
       have A19 := Aside0.mk A190
       clear A190
       obtain rfl := Option.some.inj H
       go_wp2_with (first | ((with_reducible refine gate_callee (f := 11) rfl ?_); refine goesL_ (some 44) rfl rfl Tryz.func11 (by kernel_rfl) rfl #[] rfl (by (try simp only [List.map_toArray, List.map_cons, List.map_nil]); first | done | rfl | (simp only [List.length_drop, List.length_take]; rfl)) ?_; (with_reducible refine (narcissuslaw08_awake.calls kj13  t12 _ ?side1 A19.out).mono ?_); (case side1 => first | (refine LaidW.below HLD.out ?_; with_reducible exact HB.out) | (refine LaidW.below HLD.out ?_; with_reducible apply pw_below_drewN; with_reducible exact HB.out) | (refine LaidW.below HLD.out ?_; with_reducible apply below_alloc; with_reducible exact HB.out) | (refine LaidW.below HLD.out ?_; repeat (first | (with_reducible first | exact HB.out | apply below_alloc | apply pw_below_drewN | apply below_drew1) | exact HB.out); done) | exact HLD.out | (repeat (first | exact HLD.out | (with_reducible refine LaidW.drewN ?_ _) | (with_reducible refine LaidW.drew ?_) | (with_reducible refine LaidW.alloc ?_ _)))); rintro e w20 ⟨rfl, hb⟩; refine ⟨_, rfl, ?_⟩; have n0_ := Aside0.mk (Kd.S_below (by (with_reducible repeat (first | apply Kd.S_alloc | apply Kd.S_drewN | apply Kd.S_drew)); exact HO_5.out) hb); have n1_ := Aside0.mk (Kd.S_below (by (with_reducible repeat (first | apply Kd.S_alloc | apply Kd.S_drewN | apply Kd.S_drew)); exact HO_7.out) hb); have n2_ := Aside0.mk (below_step (by repeat (first | (with_reducible first | exact HB.out | apply below_alloc | apply pw_below_drewN | apply below_drew1) | exact HB.out)) hb); clear HO_5; clear HO_7; clear HB; have HO_5 := n0_; have HO_7 := n1_; have HB := n2_; clear n0_ n1_ n2_; (try clear hb); (try clear hb2); (try clear hk); (try clear hi)))
       go_ret
       exact ⟨by first | rfl | (simp [errW_none, errW_some] <;> rfl) | (simp [*, errW_none, errW_some] <;> rfl), by repeat (first | (with_reducible first | exact HB.out | apply below_alloc | apply pw_below_drewN | apply below_drew1) | exact HB.out)⟩
      ·replace c18 := Bool.eq_false_iff.mpr c18
       subst c18
       have H1 : ((narcissusref08_Same.f kj13 t4 t8).bind fun t13 => ((narcissusref08_Same.f kj13 l0 l1).bind fun t14 => (if (t13 == t14) = true then ((narcissuslaw08_awake.f kj13).bind fun t15 => (some t15)) else (some false)))) = some r := by rw [if_neg (show ¬ (false = true) by decide)] at H; exact H
       clear H
       have H := H1
       clear H1
       replace H := Option.bind_eq_some_iff.mp H
       obtain ⟨t13, A210, H⟩ := H
       replace H : ((narcissusref08_Same.f kj13 l0 l1).bind fun t14 => (if (t13 == t14) = true then ((narcissuslaw08_awake.f kj13).bind fun t15 => (some t15)) else (some false))) = some r := H
       have A21 := Aside0.mk A210
       clear A210
       replace H := Option.bind_eq_some_iff.mp H
       obtain ⟨t14, A220, H⟩ := H
       replace H : (if (t13 == t14) = true then ((narcissuslaw08_awake.f kj13).bind fun t15 => (some t15)) else (some false)) = some r := H
       have A22 := Aside0.mk A220
       clear A220
       by_cases c23 : (t13 == t14) = true
       ·rw [if_pos c23] at H
        have c23b0 : (t13 == t14) = true := c23
        (try (have c23b1 : decide (t13 = t14) = true := by simpa using c23))
        (try (have c23b2 : (t13 == t14) = true := by simpa using c23))
        clear c23
        replace H := Option.bind_eq_some_iff.mp H
        obtain ⟨t15, A240, H⟩ := H
        replace H : (some t15) = some r := H
        have A24 := Aside0.mk A240
        clear A240
        obtain rfl := Option.some.inj H
        obtain ⟨Ao25, co25, eo25⟩ := Kd.S_slice HO_5.out
        subst eo25
        obtain ⟨Ao26, co26, eo26⟩ := Kd.S_slice HO_7.out
        subst eo26
        go_wp2_with (first | ((with_reducible refine gate_callee (f := 16) rfl ?_); refine goesL_ (some 47) rfl rfl Tryz.func16 (by kernel_rfl) rfl #[.slice Ao25 t4.length co25, .slice Ao26 t8.length co26] rfl (by (try simp only [List.map_toArray, List.map_cons, List.map_nil]); first | done | rfl | (simp only [List.length_drop, List.length_take]; rfl)) ?_; (with_reducible refine (narcissusref08_Same.calls kj13 _ _ t4 _ _ t8 t13 _ ?side1 ?side2 ?side3 ?side4 A21.out).mono ?_); (case side1 => repeat (first | exact (Kd.S_reads' HO_5.out).2.2 | (with_reducible refine Kd.C_alloc ?_ _) | (with_reducible refine Kd.C_drewN ?_ _) | (with_reducible refine Kd.C_drew ?_))); (case side2 => exact (Kd.S_reads' HO_5.out).2.1); (case side3 => repeat (first | exact (Kd.S_reads' HO_7.out).2.2 | (with_reducible refine Kd.C_alloc ?_ _) | (with_reducible refine Kd.C_drewN ?_ _) | (with_reducible refine Kd.C_drew ?_))); (case side4 => exact (Kd.S_reads' HO_7.out).2.1); rintro e w' ⟨rfl, ⟨nd, rfl⟩⟩; refine ⟨_, rfl, ?_⟩) | ((with_reducible refine gate_callee (f := 16) rfl ?_); refine goesL_ (some 50) rfl rfl Tryz.func16 (by kernel_rfl) rfl #[.slice A0 l0.length c0, .slice A1 l1.length c1] rfl (by (try simp only [List.map_toArray, List.map_cons, List.map_nil]); first | done | rfl | (simp only [List.length_drop, List.length_take]; rfl)) ?_; (with_reducible refine (narcissusref08_Same.calls kj13 _ _ l0 _ _ l1 t14 _ ?side1 ?side2 ?side3 ?side4 A22.out).mono ?_); (case side1 => repeat (first | exact (Kd.C_below HR0.out (by repeat (first | (with_reducible first | exact HB.out | apply below_alloc | apply pw_below_drewN | apply below_drew1) | exact HB.out))) | (with_reducible refine Kd.C_alloc ?_ _) | (with_reducible refine Kd.C_drewN ?_ _) | (with_reducible refine Kd.C_drew ?_))); (case side2 => exact HC0.out); (case side3 => repeat (first | exact (Kd.C_below HR1.out (by repeat (first | (with_reducible first | exact HB.out | apply below_alloc | apply pw_below_drewN | apply below_drew1) | exact HB.out))) | (with_reducible refine Kd.C_alloc ?_ _) | (with_reducible refine Kd.C_drewN ?_ _) | (with_reducible refine Kd.C_drew ?_))); (case side4 => exact HC1.out); rintro e w' ⟨rfl, ⟨nd, rfl⟩⟩; refine ⟨_, rfl, ?_⟩) | (go_at_call 11; (with_reducible refine (narcissuslaw08_awake.calls kj13  t15 _ ?side1 A24.out).mono ?_); (case side1 => first | (refine LaidW.below HLD.out ?_; with_reducible exact HB.out) | (refine LaidW.below HLD.out ?_; with_reducible apply pw_below_drewN; with_reducible exact HB.out) | (refine LaidW.below HLD.out ?_; with_reducible apply below_alloc; with_reducible exact HB.out) | (refine LaidW.below HLD.out ?_; repeat (first | (with_reducible first | exact HB.out | apply below_alloc | apply pw_below_drewN | apply below_drew1) | exact HB.out); done) | exact HLD.out | (repeat (first | exact HLD.out | (with_reducible refine LaidW.drewN ?_ _) | (with_reducible refine LaidW.drew ?_) | (with_reducible refine LaidW.alloc ?_ _)))); rintro e w27 ⟨rfl, hb⟩; have n0_ := Aside0.mk (Kd.S_below (by (with_reducible repeat (first | apply Kd.S_alloc | apply Kd.S_drewN | apply Kd.S_drew)); exact HO_5.out) hb); have n1_ := Aside0.mk (Kd.S_below (by (with_reducible repeat (first | apply Kd.S_alloc | apply Kd.S_drewN | apply Kd.S_drew)); exact HO_7.out) hb); have n2_ := Aside0.mk (below_step (by repeat (first | (with_reducible first | exact HB.out | apply below_alloc | apply pw_below_drewN | apply below_drew1) | exact HB.out)) hb); clear HO_5; clear HO_7; clear HB; have HO_5 := n0_; have HO_7 := n1_; have HB := n2_; clear n0_ n1_ n2_; (try clear hb); (try clear hb2); (try clear hk); (try clear hi)))
        go_ret
        exact ⟨by first | rfl | (simp [errW_none, errW_some] <;> rfl) | (simp [*, errW_none, errW_some] <;> rfl), by repeat (first | (with_reducible first | exact HB.out | apply below_alloc | apply pw_below_drewN | apply below_drew1) | exact HB.out)⟩
       ·rw [if_neg c23] at H
        have c23b0 : (t13 == t14) = false := by simpa using c23
        (try (have c23b1 : decide (t13 = t14) = false := by simpa using c23))
        (try (have c23b2 : (t13 == t14) = false := by simpa using c23))
        (try (have c23b3 : ¬ (t13 = t14) := by simpa using c23))
        clear c23
        obtain rfl := Option.some.inj H
        obtain ⟨Ao28, co28, eo28⟩ := Kd.S_slice HO_5.out
        subst eo28
        obtain ⟨Ao29, co29, eo29⟩ := Kd.S_slice HO_7.out
        subst eo29
        go_wp2_with (first | ((with_reducible refine gate_callee (f := 16) rfl ?_); refine goesL_ (some 47) rfl rfl Tryz.func16 (by kernel_rfl) rfl #[.slice Ao28 t4.length co28, .slice Ao29 t8.length co29] rfl (by (try simp only [List.map_toArray, List.map_cons, List.map_nil]); first | done | rfl | (simp only [List.length_drop, List.length_take]; rfl)) ?_; (with_reducible refine (narcissusref08_Same.calls kj13 _ _ t4 _ _ t8 t13 _ ?side1 ?side2 ?side3 ?side4 A21.out).mono ?_); (case side1 => repeat (first | exact (Kd.S_reads' HO_5.out).2.2 | (with_reducible refine Kd.C_alloc ?_ _) | (with_reducible refine Kd.C_drewN ?_ _) | (with_reducible refine Kd.C_drew ?_))); (case side2 => exact (Kd.S_reads' HO_5.out).2.1); (case side3 => repeat (first | exact (Kd.S_reads' HO_7.out).2.2 | (with_reducible refine Kd.C_alloc ?_ _) | (with_reducible refine Kd.C_drewN ?_ _) | (with_reducible refine Kd.C_drew ?_))); (case side4 => exact (Kd.S_reads' HO_7.out).2.1); rintro e w' ⟨rfl, ⟨nd, rfl⟩⟩; refine ⟨_, rfl, ?_⟩) | ((with_reducible refine gate_callee (f := 16) rfl ?_); refine goesL_ (some 50) rfl rfl Tryz.func16 (by kernel_rfl) rfl #[.slice A0 l0.length c0, .slice A1 l1.length c1] rfl (by (try simp only [List.map_toArray, List.map_cons, List.map_nil]); first | done | rfl | (simp only [List.length_drop, List.length_take]; rfl)) ?_; (with_reducible refine (narcissusref08_Same.calls kj13 _ _ l0 _ _ l1 t14 _ ?side1 ?side2 ?side3 ?side4 A22.out).mono ?_); (case side1 => repeat (first | exact (Kd.C_below HR0.out (by repeat (first | (with_reducible first | exact HB.out | apply below_alloc | apply pw_below_drewN | apply below_drew1) | exact HB.out))) | (with_reducible refine Kd.C_alloc ?_ _) | (with_reducible refine Kd.C_drewN ?_ _) | (with_reducible refine Kd.C_drew ?_))); (case side2 => exact HC0.out); (case side3 => repeat (first | exact (Kd.C_below HR1.out (by repeat (first | (with_reducible first | exact HB.out | apply below_alloc | apply pw_below_drewN | apply below_drew1) | exact HB.out))) | (with_reducible refine Kd.C_alloc ?_ _) | (with_reducible refine Kd.C_drewN ?_ _) | (with_reducible refine Kd.C_drew ?_))); (case side4 => exact HC1.out); rintro e w' ⟨rfl, ⟨nd, rfl⟩⟩; refine ⟨_, rfl, ?_⟩))
        go_ret
        exact ⟨by first | rfl | (simp [errW_none, errW_some] <;> rfl) | (simp [*, errW_none, errW_some] <;> rfl), by repeat (first | (with_reducible first | exact HB.out | apply below_alloc | apply pw_below_drewN | apply below_drew1) | exact HB.out)⟩

end Go.Proofs.YtocoamgbpoommaaGreatDoor.C
end
