/- Texts of this claim, together: what the functions return, and what they say in plain words. -/
import Derived.Test.YtocoamgbpoommaaGreatDoorUB
import Derived.Test.YtocoamgbpoommaaGreatDoorUD
import Derived.Test.YtocoamgbpoommaaGreatDoorUAF
import Derived.Test.YtocoamgbpoommaaGreatDoorUAB
import Derived.Test.YtocoamgbpoommaaGreatDoorUQ
import Derived.Test.YtocoamgbpoommaaGreatDoorUAD
section
namespace Go.Proofs.YtocoamgbpoommaaGreatDoor.C
open Go.RowKit Go.Proofs.YtocoamgbpoommaaGreatDoorW.PrintWords Go.Proofs.YtocoamgbpoommaaGreatDoorW.PrintLast Go.Proofs.YtocoamgbpoommaaGreatDoorW.PrintMore
attribute [local go_sem] max2_int min2_int max_two min_two max_three min_three max_four min_four
set_option linter.unusedVariables false
set_option linter.unusedSimpArgs false

/-! ### narcissuslaw08_RingDifferent: function 7 -/
mutual
def narcissuslaw08_RingDifferent.j0 : Nat → List (List (S72)) → List (List (S72)) → Bool → Option (Bool)
 | 0, _, _, _ => none
 | k + 1, x0, x1, x26 => if x26 = true then ((narcissuslaw08_awake.f k).bind fun t3 => (some t3)) else ((ring_Together.f k x0).bind fun bt4 => ((ring_Together.f k x1).bind fun bt8 => (if bt4.2 = 0 then (narcissuslaw08_RingDifferent.j1 k x0 x1 bt4.1 bt8.1 (bt8.2 != 0)) else (narcissuslaw08_RingDifferent.j1 k x0 x1 bt4.1 bt8.1 true))))
def narcissuslaw08_RingDifferent.j1 : Nat → List (List (S72)) → List (List (S72)) → List (List (S72)) → List (List (S72)) → Bool → Option (Bool)
 | 0, _, _, _, _, _ => none
 | k + 1, x0, x1, x5, x7, x43 => if x43 = true then ((narcissuslaw08_awake.f k).bind fun t12 => (some t12)) else ((narcissusref08_Same.f k x5 x7).bind fun t13 => ((narcissusref08_Same.f k x0 x1).bind fun t14 => (if (t13 == t14) = true then ((narcissuslaw08_awake.f k).bind fun t15 => (some t15)) else (some false))))
end
def narcissuslaw08_RingDifferent.f (k : Nat) (l0 : List (List (S72))) (l1 : List (List (S72))) : Option (Bool) := if (l0.length : Int) > 40 then (narcissuslaw08_RingDifferent.j0 k l0 l1 true) else (if (l1.length : Int) > 40 then (narcissuslaw08_RingDifferent.j0 k l0 l1 true) else ((narcissusref07_Small.f k 20000 l0).bind fun t1 => (if t1 = true then ((narcissusref07_Small.f k 20000 l1).bind fun t2 => (narcissuslaw08_RingDifferent.j0 k l0 l1 (!t2))) else (narcissuslaw08_RingDifferent.j0 k l0 l1 true))))
theorem narcissuslaw08_RingDifferent.mono_l : ∀ k, (∀ y0 y1 y2, LeO (narcissuslaw08_RingDifferent.j0 k y0 y1 y2) (narcissuslaw08_RingDifferent.j0 (k + 1) y0 y1 y2)) ∧ (∀ y0 y1 y2 y3 y4, LeO (narcissuslaw08_RingDifferent.j1 k y0 y1 y2 y3 y4) (narcissuslaw08_RingDifferent.j1 (k + 1) y0 y1 y2 y3 y4))
 | 0 => ⟨fun _ _ _ r h => by simp [narcissuslaw08_RingDifferent.j0] at h, fun _ _ _ _ _ r h => by simp [narcissuslaw08_RingDifferent.j1] at h⟩
 | k + 1 => by
  obtain ⟨ih0, ih1⟩ := narcissuslaw08_RingDifferent.mono_l k
  refine ⟨?_, ?_⟩
  ·intro y0 y1 y2
   unfold narcissuslaw08_RingDifferent.j0
   repeat' first
   | (with_reducible exact ih0 _ _ _)
   | (with_reducible exact ih1 _ _ _ _ _)
   | (with_reducible exact narcissuslaw08_awake.mono _)
   | (with_reducible exact narcissusref07_Small.mono _ _ _)
   | (with_reducible exact narcissusref08_Same.mono _ _ _)
   | (with_reducible exact ring_Together.mono _ _)
   | (with_reducible exact LeO.refl _)
   | (with_reducible exact LeO.none _)
   | (with_reducible refine LeO.ite ?_ ?_)
   | (with_reducible refine LeO.bind ?_ (fun _ => ?_))
   | exact ih0 _ _ _
   | exact ih1 _ _ _ _ _
   | exact narcissuslaw08_awake.mono _
   | exact narcissusref07_Small.mono _ _ _
   | exact narcissusref08_Same.mono _ _ _
   | exact ring_Together.mono _ _
   | exact LeO.none _
   | refine LeO.ite ?_ ?_
   | refine LeO.bind ?_ (fun _ => ?_)
  ·intro y0 y1 y2 y3 y4
   unfold narcissuslaw08_RingDifferent.j1
   repeat' first
   | (with_reducible exact ih0 _ _ _)
   | (with_reducible exact ih1 _ _ _ _ _)
   | (with_reducible exact narcissuslaw08_awake.mono _)
   | (with_reducible exact narcissusref07_Small.mono _ _ _)
   | (with_reducible exact narcissusref08_Same.mono _ _ _)
   | (with_reducible exact ring_Together.mono _ _)
   | (with_reducible exact LeO.refl _)
   | (with_reducible exact LeO.none _)
   | (with_reducible refine LeO.ite ?_ ?_)
   | (with_reducible refine LeO.bind ?_ (fun _ => ?_))
   | exact ih0 _ _ _
   | exact ih1 _ _ _ _ _
   | exact narcissuslaw08_awake.mono _
   | exact narcissusref07_Small.mono _ _ _
   | exact narcissusref08_Same.mono _ _ _
   | exact ring_Together.mono _ _
   | exact LeO.none _
   | refine LeO.ite ?_ ?_
   | refine LeO.bind ?_ (fun _ => ?_)
theorem narcissuslaw08_RingDifferent.mono : ∀ a0 a1 k, LeO (narcissuslaw08_RingDifferent.f k a0 a1) (narcissuslaw08_RingDifferent.f (k + 1) a0 a1) := by
 intro a0 a1 k
 obtain ⟨ih0, ih1⟩ := narcissuslaw08_RingDifferent.mono_l k
 unfold narcissuslaw08_RingDifferent.f
 repeat' first
   | (with_reducible exact ih0 _ _ _)
   | (with_reducible exact ih1 _ _ _ _ _)
   | (with_reducible exact narcissuslaw08_awake.mono _)
   | (with_reducible exact narcissusref07_Small.mono _ _ _)
   | (with_reducible exact narcissusref08_Same.mono _ _ _)
   | (with_reducible exact ring_Together.mono _ _)
   | (with_reducible exact LeO.refl _)
   | (with_reducible exact LeO.none _)
   | (with_reducible refine LeO.ite ?_ ?_)
   | (with_reducible refine LeO.bind ?_ (fun _ => ?_))
   | exact ih0 _ _ _
   | exact ih1 _ _ _ _ _
   | exact narcissuslaw08_awake.mono _
   | exact narcissusref07_Small.mono _ _ _
   | exact narcissusref08_Same.mono _ _ _
   | exact ring_Together.mono _ _
   | exact LeO.none _
   | refine LeO.ite ?_ ?_
   | refine LeO.bind ?_ (fun _ => ?_)
set_option maxHeartbeats 8000000 in
set_option maxRecDepth 100000 in
theorem narcissuslaw08_RingDifferent.calls (k : Nat) (A0 : Option Addr) (c0 : Nat) (l0 : List (List (S72))) (A1 : Option Addr) (c1 : Nat) (l1 : List (List (S72))) (r : Bool) (w : World) (hr0 : Kd.C (Kd.slice 72 k72) w A0 l0.length l0) (hc0 : l0.length ≤ c0) (hr1 : Kd.C (Kd.slice 72 k72) w A1 l1.length l1) (hc1 : l1.length ≤ c1) (hL : LaidW w) (h : narcissuslaw08_RingDifferent.f k l0 l1 = some r) :
  Calls Tryz.prog 7 #[.slice A0 l0.length c0, .slice A1 l1.length c1] w fun e w' => e = .returned (.bool r) ∧ Below w.heap.size w w' := by
 have HLD := Aside0.mk hL
 clear hL
 have HR0 := Aside0.mk hr0
 have HC0 := Aside0.mk hc0
 clear hr0 hc0
 have HR1 := Aside0.mk hr1
 have HC1 := Aside0.mk hc1
 clear hr1 hc1
 have HB := Aside0.mk (Below.refl w.heap.size w)
 have H : (if (l0.length : Int) > 40 then (narcissuslaw08_RingDifferent.j0 k l0 l1 true) else (if (l1.length : Int) > 40 then (narcissuslaw08_RingDifferent.j0 k l0 l1 true) else ((narcissusref07_Small.f k 20000 l0).bind fun t1 => (if t1 = true then ((narcissusref07_Small.f k 20000 l1).bind fun t2 => (narcissuslaw08_RingDifferent.j0 k l0 l1 (!t2))) else (narcissuslaw08_RingDifferent.j0 k l0 l1 true))))) = some r := h
 clear h
 have HC3 := Aside0.mk H
 clear H
 go_enter Tryz.func7, Tryz.ntmps7
 go_upto_region 1 with (fail)
 go_cut [26] (fun v26 wc => ∃ (kq : Nat) (x26_2 : Bool), v26 = .bool x26_2 ∧ Aside0 (narcissuslaw08_RingDifferent.j0 kq l0 l1 x26_2 = some r) ∧ Aside0 (kq ≤ k) ∧ Aside0 (Below w.heap.size w wc))
 case first =>
  have H := HC3.out
  clear HC3
  by_cases c4 : (l0.length : Int) > 40
  ·rw [if_pos c4] at H
   have c4b0 : decide (40 < (l0.length : Int)) = true := decide_eq_true c4
   have c4b1 : decide (40 < l0.length) = true := decide_eq_true (by omega)
   clear c4
   (first | rw [c4b0] | (simp only [i64_w, i32_w]; rw [c4b0]) | skip)
   have H' := Aside0.mk H
   clear H
   go_wp2
   go_meet
   case rel => exact ⟨_, (true), (by first | rfl | (simp; done) | (simp [*]; done)), H', ⟨by first | omega | exact Nat.le_refl _⟩, ⟨by repeat (first | (with_reducible first | exact HB.out | apply below_alloc | apply pw_below_drewN | apply below_drew1) | exact HB.out)⟩⟩
  ·rw [if_neg c4] at H
   have c4b0 : decide (40 < (l0.length : Int)) = false := decide_eq_false c4
   have c4b1 : decide (40 < l0.length) = false := decide_eq_false (by omega)
   clear c4
   (first | rw [c4b0] | (simp only [i64_w, i32_w]; rw [c4b0]) | skip)
   by_cases c5 : (l1.length : Int) > 40
   ·rw [if_pos c5] at H
    have c5b0 : decide (40 < (l1.length : Int)) = true := decide_eq_true c5
    have c5b1 : decide (40 < l1.length) = true := decide_eq_true (by omega)
    clear c5
    have H' := Aside0.mk H
    clear H
    go_wp2
    go_meet
    case rel => exact ⟨_, (true), (by first | rfl | (simp; done) | (simp [*]; done)), H', ⟨by first | omega | exact Nat.le_refl _⟩, ⟨by repeat (first | (with_reducible first | exact HB.out | apply below_alloc | apply pw_below_drewN | apply below_drew1) | exact HB.out)⟩⟩
   ·rw [if_neg c5] at H
    have c5b0 : decide (40 < (l1.length : Int)) = false := decide_eq_false c5
    have c5b1 : decide (40 < l1.length) = false := decide_eq_false (by omega)
    clear c5
    replace H := Option.bind_eq_some_iff.mp H
    obtain ⟨t1, A60, H⟩ := H
    replace H : (if t1 = true then ((narcissusref07_Small.f k 20000 l1).bind fun t2 => (narcissuslaw08_RingDifferent.j0 k l0 l1 (!t2))) else (narcissuslaw08_RingDifferent.j0 k l0 l1 true)) = some r := H
    have A6 := Aside0.mk A60
    clear A60
    by_cases c7 : t1 = true
    ·subst c7
     have H1 : ((narcissusref07_Small.f k 20000 l1).bind fun t2 => (narcissuslaw08_RingDifferent.j0 k l0 l1 (!t2))) = some r := by rw [if_pos rfl] at H; exact H
     clear H
     have H := H1
     clear H1
     replace H := Option.bind_eq_some_iff.mp H
     obtain ⟨t2, A80, H⟩ := H
     replace H : (narcissuslaw08_RingDifferent.j0 k l0 l1 (!t2)) = some r := H
     have A8 := Aside0.mk A80
     clear A80
     have H' := Aside0.mk H
     clear H
     go_wp2_with (first | (go_at_call 10; (with_reducible refine (narcissusref07_Small.calls k 20000 _ _ l0 true _ ?side1 ?side2 A6.out).mono ?_); (case side1 => repeat (first | exact (Kd.C_below HR0.out HB.out) | (with_reducible refine Kd.C_alloc ?_ _) | (with_reducible refine Kd.C_drewN ?_ _) | (with_reducible refine Kd.C_drew ?_))); (case side2 => exact HC0.out); rintro e w' ⟨rfl, ⟨nd, rfl⟩⟩) | (go_at_call 10; (with_reducible refine (narcissusref07_Small.calls k 20000 _ _ l1 t2 _ ?side1 ?side2 A8.out).mono ?_); (case side1 => repeat (first | exact (Kd.C_below HR1.out (by repeat (first | (with_reducible first | exact HB.out | apply below_alloc | apply pw_below_drewN | apply below_drew1) | exact HB.out))) | (with_reducible refine Kd.C_alloc ?_ _) | (with_reducible refine Kd.C_drewN ?_ _) | (with_reducible refine Kd.C_drew ?_))); (case side2 => exact HC1.out); rintro e w' ⟨rfl, ⟨nd, rfl⟩⟩))
     go_meet
     case rel => exact ⟨_, (!t2), (by first | rfl | (simp; done) | (simp [*]; done)), H', ⟨by first | omega | exact Nat.le_refl _⟩, ⟨by repeat (first | (with_reducible first | exact HB.out | apply below_alloc | apply pw_below_drewN | apply below_drew1) | exact HB.out)⟩⟩
    ·replace c7 := Bool.eq_false_iff.mpr c7
     subst c7
     have H1 : (narcissuslaw08_RingDifferent.j0 k l0 l1 true) = some r := by rw [if_neg (show ¬ (false = true) by decide)] at H; exact H
     clear H
     have H := H1
     clear H1
     have H' := Aside0.mk H
     clear H
     go_wp2_with (first | (go_at_call 10; (with_reducible refine (narcissusref07_Small.calls k 20000 _ _ l0 false _ ?side1 ?side2 A6.out).mono ?_); (case side1 => repeat (first | exact (Kd.C_below HR0.out HB.out) | (with_reducible refine Kd.C_alloc ?_ _) | (with_reducible refine Kd.C_drewN ?_ _) | (with_reducible refine Kd.C_drew ?_))); (case side2 => exact HC0.out); rintro e w' ⟨rfl, ⟨nd, rfl⟩⟩))
     go_meet
     case rel => exact ⟨_, (true), (by first | rfl | (simp; done) | (simp [*]; done)), H', ⟨by first | omega | exact Nat.le_refl _⟩, ⟨by repeat (first | (with_reducible first | exact HB.out | apply below_alloc | apply pw_below_drewN | apply below_drew1) | exact HB.out)⟩⟩
 case rest =>
  clear HC3
  try clear c1
  try clear p2
  try clear c4
  try clear c4b0
  try clear c4b1
  try clear c5
  try clear c5b0
  try clear c5b1
  try clear c7
  obtain ⟨kq, x26_2, rfl, HA, HJ2, HB⟩ := hcut
  cases kq with
  | zero => exact absurd HA.out (by simp [narcissuslaw08_RingDifferent.j0])
  | succ kj2 =>
   have H := HA.out
   clear HA
   simp only [narcissuslaw08_RingDifferent.j0] at H
   by_cases c9 : x26_2 = true
   ·subst c9
    have H1 : ((narcissuslaw08_awake.f kj2).bind fun t3 => (some t3)) = some r := by rw [if_pos rfl] at H; exact H
    clear H
    have H := H1
    clear H1
    replace H := Option.bind_eq_some_iff.mp H
    obtain ⟨t3, A100, H⟩ := H
    replace H : (some t3) = some r := H
    have A10 := Aside0.mk A100
    clear A100
    obtain rfl := Option.some.inj H
    go_wp2_with (first | ((with_reducible refine gate_callee (f := 11) rfl ?_); refine goesL_ (some 27) rfl rfl Tryz.func11 (by kernel_rfl) rfl #[] rfl (by (try simp only [List.map_toArray, List.map_cons, List.map_nil]); first | done | rfl | (simp only [List.length_drop, List.length_take]; rfl)) ?_; (with_reducible refine (narcissuslaw08_awake.calls kj2  t3 _ ?side1 A10.out).mono ?_); (case side1 => first | (refine LaidW.below HLD.out ?_; with_reducible exact HB.out) | (refine LaidW.below HLD.out ?_; with_reducible apply pw_below_drewN; with_reducible exact HB.out) | (refine LaidW.below HLD.out ?_; with_reducible apply below_alloc; with_reducible exact HB.out) | (refine LaidW.below HLD.out ?_; repeat (first | (with_reducible first | exact HB.out | apply below_alloc | apply pw_below_drewN | apply below_drew1) | exact HB.out); done) | exact HLD.out | (repeat (first | exact HLD.out | (with_reducible refine LaidW.drewN ?_ _) | (with_reducible refine LaidW.drew ?_) | (with_reducible refine LaidW.alloc ?_ _)))); rintro e w11 ⟨rfl, hb⟩; refine ⟨_, rfl, ?_⟩; have n0_ := Aside0.mk (below_step (by repeat (first | (with_reducible first | exact HB.out | apply below_alloc | apply pw_below_drewN | apply below_drew1) | exact HB.out)) hb); clear HB; have HB := n0_; clear n0_; (try clear hb); (try clear hb2); (try clear hk); (try clear hi)))
    go_ret
    exact ⟨by first | rfl | (simp [errW_none, errW_some] <;> rfl) | (simp [*, errW_none, errW_some] <;> rfl), by repeat (first | (with_reducible first | exact HB.out | apply below_alloc | apply pw_below_drewN | apply below_drew1) | exact HB.out)⟩
   ·replace c9 := Bool.eq_false_iff.mpr c9
    subst c9
    have H1 : ((ring_Together.f kj2 l0).bind fun bt4 => ((ring_Together.f kj2 l1).bind fun bt8 => (if bt4.2 = 0 then (narcissuslaw08_RingDifferent.j1 kj2 l0 l1 bt4.1 bt8.1 (bt8.2 != 0)) else (narcissuslaw08_RingDifferent.j1 kj2 l0 l1 bt4.1 bt8.1 true)))) = some r := by rw [if_neg (show ¬ (false = true) by decide)] at H; exact H
    clear H
    have H := H1
    clear H1
    replace H := Option.bind_eq_some_iff.mp H
    obtain ⟨⟨t4, t5⟩, A120, H⟩ := H
    replace H : ((ring_Together.f kj2 l1).bind fun bt8 => (if t5 = 0 then (narcissuslaw08_RingDifferent.j1 kj2 l0 l1 t4 bt8.1 (bt8.2 != 0)) else (narcissuslaw08_RingDifferent.j1 kj2 l0 l1 t4 bt8.1 true))) = some r := H
    have A12 := Aside0.mk A120
    clear A120
    replace H := Option.bind_eq_some_iff.mp H
    obtain ⟨⟨t8, t9⟩, A130, H⟩ := H
    replace H : (if t5 = 0 then (narcissuslaw08_RingDifferent.j1 kj2 l0 l1 t4 t8 (t9 != 0)) else (narcissuslaw08_RingDifferent.j1 kj2 l0 l1 t4 t8 true)) = some r := H
    have A13 := Aside0.mk A130
    clear A130
    have HC14 := Aside0.mk H
    clear H
    go_upto_region 5 with (first | ((with_reducible refine gate_callee (f := 15) rfl ?_); refine goesL_ (some 30) rfl rfl Tryz.func15 (by kernel_rfl) rfl #[.slice A0 l0.length c0] rfl (by (try simp only [List.map_toArray, List.map_cons, List.map_nil]); first | done | rfl | (simp only [List.length_drop, List.length_take]; rfl)) ?_; (with_reducible refine (ring_Together.calls kj2 _ _ l0 t4 t5 _ ?side1 ?side2 ?side3 A12.out).mono ?_); (case side1 => repeat (first | exact (Kd.C_below HR0.out HB.out) | (with_reducible refine Kd.C_alloc ?_ _) | (with_reducible refine Kd.C_drewN ?_ _) | (with_reducible refine Kd.C_drew ?_))); (case side2 => exact HC0.out); (case side3 => first | (refine LaidW.below HLD.out ?_; with_reducible exact HB.out) | (refine LaidW.below HLD.out ?_; with_reducible apply pw_below_drewN; with_reducible exact HB.out) | (refine LaidW.below HLD.out ?_; with_reducible apply below_alloc; with_reducible exact HB.out) | (refine LaidW.below HLD.out ?_; repeat (first | (with_reducible first | exact HB.out | apply below_alloc | apply pw_below_drewN | apply below_drew1) | exact HB.out); done) | exact HLD.out | (repeat (first | exact HLD.out | (with_reducible refine LaidW.drewN ?_ _) | (with_reducible refine LaidW.drew ?_) | (with_reducible refine LaidW.alloc ?_ _)))); rintro e w15 ⟨v6, rfl, ho0, hb⟩; refine ⟨_, rfl, ?_⟩; have n0_ := Aside0.mk (Kd.S_lower ho0 (below_size (by repeat (first | (with_reducible first | exact HB.out | apply below_alloc | apply pw_below_drewN | apply below_drew1) | exact HB.out)))); have n1_ := Aside0.mk (below_step (by repeat (first | (with_reducible first | exact HB.out | apply below_alloc | apply pw_below_drewN | apply below_drew1) | exact HB.out)) hb); clear HB; have HO7 := n0_; have HB := n1_; clear n0_ n1_; (try clear hb); (try clear hb2); (try clear hk); (try clear hi); (try clear ho0)) | ((with_reducible refine gate_callee (f := 15) rfl ?_); refine goesL_ (some 35) rfl rfl Tryz.func15 (by kernel_rfl) rfl #[.slice A1 l1.length c1] rfl (by (try simp only [List.map_toArray, List.map_cons, List.map_nil]); first | done | rfl | (simp only [List.length_drop, List.length_take]; rfl)) ?_; (with_reducible refine (ring_Together.calls kj2 _ _ l1 t8 t9 _ ?side1 ?side2 ?side3 A13.out).mono ?_); (case side1 => repeat (first | exact (Kd.C_below HR1.out HB.out) | (with_reducible refine Kd.C_alloc ?_ _) | (with_reducible refine Kd.C_drewN ?_ _) | (with_reducible refine Kd.C_drew ?_))); (case side2 => exact HC1.out); (case side3 => first | (refine LaidW.below HLD.out ?_; with_reducible exact HB.out) | (refine LaidW.below HLD.out ?_; with_reducible apply pw_below_drewN; with_reducible exact HB.out) | (refine LaidW.below HLD.out ?_; with_reducible apply below_alloc; with_reducible exact HB.out) | (refine LaidW.below HLD.out ?_; repeat (first | (with_reducible first | exact HB.out | apply below_alloc | apply pw_below_drewN | apply below_drew1) | exact HB.out); done) | exact HLD.out | (repeat (first | exact HLD.out | (with_reducible refine LaidW.drewN ?_ _) | (with_reducible refine LaidW.drew ?_) | (with_reducible refine LaidW.alloc ?_ _)))); rintro e w16 ⟨v10, rfl, ho0, hb⟩; refine ⟨_, rfl, ?_⟩; have n0_ := Aside0.mk (Kd.S_elder' (by (with_reducible repeat (first | apply Kd.S_alloc | apply Kd.S_drewN | apply Kd.S_drew)); exact HO7.out) (Kd.S_base ho0) hb); have n1_ := Aside0.mk (Kd.S_lower (Kd.S_new' ho0 (Kd.S_lt (by (with_reducible repeat (first | apply Kd.S_alloc | apply Kd.S_drewN | apply Kd.S_drew)); exact HO7.out))) (below_size (by repeat (first | (with_reducible first | exact HB.out | apply below_alloc | apply pw_below_drewN | apply below_drew1) | exact HB.out)))); have n2_ := Aside0.mk (below_step (by repeat (first | (with_reducible first | exact HB.out | apply below_alloc | apply pw_below_drewN | apply below_drew1) | exact HB.out)) hb); clear HO7; clear HB; have HO7 := n0_; have HO11 := n1_; have HB := n2_; clear n0_ n1_ n2_; (try clear hb); (try clear hb2); (try clear hk); (try clear hi); (try clear ho0)))
    (try simp only [Act.put, List.setIfInBounds_toArray, List.set_cons_zero, List.set_cons_succ])
    go_cut [43] (fun v43 wc => ∃ (kq : Nat) (x43_13 : Bool), v43 = .bool x43_13 ∧ Aside0 (narcissuslaw08_RingDifferent.j1 kq l0 l1 t4 t8 x43_13 = some r) ∧ Aside0 (kq ≤ kj2) ∧ Aside0 (Kd.S (Kd.slice 72 k72) 47 wc w.heap.size (fun k_ => some k_ ≠ (v10 : Value).ownBlock) v6 t4) ∧ Aside0 (Kd.S (Kd.slice 72 k72) 47 wc w.heap.size (fun k_ => some k_ ≠ (v6 : Value).ownBlock) v10 t8) ∧ Aside0 (Below w.heap.size w wc))
    case first =>
     have H := HC14.out
     clear HC14
     by_cases c17 : t5 = 0
     ·rw [if_pos c17] at H
      have c17b0 : (t5 == 0) = true := beq_iff_eq.mpr c17
      have c17b1 : (t5 != 0) = false := bne_eq_false_iff_eq.mpr c17
      clear c17
      (first | rw [c17b0] | (simp only [i64_w, i32_w]; rw [c17b0]) | skip)
      have H' := Aside0.mk H
      clear H
      go_wp2
      go_meet
      case rel => exact ⟨_, ((t9 != 0)), (by first | rfl | (simp; done) | (simp [*]; done)), H', ⟨by have := HJ2.out; first | omega | exact Nat.le_refl _⟩, ⟨by (with_reducible repeat (first | apply Kd.S_alloc | apply Kd.S_drewN | apply Kd.S_drew)); exact Kd.S_mono HO7.out (fun _ hk => hk.2)⟩, ⟨by (with_reducible repeat (first | apply Kd.S_alloc | apply Kd.S_drewN | apply Kd.S_drew)); exact Kd.S_mono HO11.out (fun _ hk => hk.2)⟩, ⟨by repeat (first | (with_reducible first | exact HB.out | apply below_alloc | apply pw_below_drewN | apply below_drew1) | exact HB.out)⟩⟩
     ·rw [if_neg c17] at H
      have c17b0 : (t5 == 0) = false := beq_eq_false_iff_ne.mpr c17
      have c17b1 : (t5 != 0) = true := bne_iff_ne.mpr c17
      (first | rw [c17b0] | (simp only [i64_w, i32_w]; rw [c17b0]) | skip)
      have H' := Aside0.mk H
      clear H
      go_wp2
      go_meet
      case rel => exact ⟨_, (true), (by first | rfl | (simp; done) | (simp [*]; done)), H', ⟨by have := HJ2.out; first | omega | exact Nat.le_refl _⟩, ⟨by (with_reducible repeat (first | apply Kd.S_alloc | apply Kd.S_drewN | apply Kd.S_drew)); exact Kd.S_mono HO7.out (fun _ hk => hk.2)⟩, ⟨by (with_reducible repeat (first | apply Kd.S_alloc | apply Kd.S_drewN | apply Kd.S_drew)); exact Kd.S_mono HO11.out (fun _ hk => hk.2)⟩, ⟨by repeat (first | (with_reducible first | exact HB.out | apply below_alloc | apply pw_below_drewN | apply below_drew1) | exact HB.out)⟩⟩
    case rest =>
     clear HC14
     try clear c1
     try clear p2
     try clear c4
     try clear c4b0
     try clear c4b1
     try clear c5
     try clear c5b0
     try clear c5b1
     try clear c7
     try clear c9
     try clear c11
     try clear c15
     try clear c17
     try clear c17b0
     try clear c17b1
     try clear p2
     obtain ⟨kq, x43_13, rfl, HA, HJ13, HO_5, HO_7, HB⟩ := hcut
     cases kq with
     | zero => exact absurd HA.out (by simp [narcissuslaw08_RingDifferent.j1])
     | succ kj13 =>
      have H := HA.out
      clear HA
      simp only [narcissuslaw08_RingDifferent.j1] at H
      by_cases c18 : x43_13 = true
      ·subst c18
       have H1 : ((narcissuslaw08_awake.f kj13).bind fun t12 => (some t12)) = some r := by rw [if_pos rfl] at H; exact H
       clear H
       have H := H1
       clear H1
       replace H := Option.bind_eq_some_iff.mp H
       obtain ⟨t12, A190, H⟩ := H
       replace H : (some t12) = some r := H
       have A19 := Aside0.mk A190
       clear A190
       obtain rfl := Option.some.inj H
       go_wp2_with (first | ((with_reducible refine gate_callee (f := 11) rfl ?_); refine goesL_ (some 44) rfl rfl Tryz.func11 (by kernel_rfl) rfl #[] rfl (by (try simp only [List.map_toArray, List.map_cons, List.map_nil]); first | done | rfl | (simp only [List.length_drop, List.length_take]; rfl)) ?_; (with_reducible refine (narcissuslaw08_awake.calls kj13  t12 _ ?side1 A19.out).mono ?_); (case side1 => first | (refine LaidW.below HLD.out ?_; with_reducible exact HB.out) | (refine LaidW.below HLD.out ?_; with_reducible apply pw_below_drewN; with_reducible exact HB.out) | (refine LaidW.below HLD.out ?_; with_reducible apply below_alloc; with_reducible exact HB.out) | (refine LaidW.below HLD.out ?_; repeat (first | (with_reducible first | exact HB.out | apply below_alloc | apply pw_below_drewN | apply below_drew1) | exact HB.out); done) | exact HLD.out | (repeat (first | exact HLD.out | (with_reducible refine LaidW.drewN ?_ _) | (with_reducible refine LaidW.drew ?_) | (with_reducible refine LaidW.alloc ?_ _)))); rintro e w20 ⟨rfl, hb⟩; refine ⟨_, rfl, ?_⟩; have n0_ := Aside0.mk (Kd.S_below (by (with_reducible repeat (first | apply Kd.S_alloc | apply Kd.S_drewN | apply Kd.S_drew)); exact HO_5.out) hb); have n1_ := Aside0.mk (Kd.S_below (by (with_reducible repeat (first | apply Kd.S_alloc | apply Kd.S_drewN | apply Kd.S_drew)); exact HO_7.out) hb); have n2_ := Aside0.mk (below_step (by repeat (first | (with_reducible first | exact HB.out | apply below_alloc | apply pw_below_drewN | apply below_drew1) | exact HB.out)) hb); clear HO_5; clear HO_7; clear HB; have HO_5 := n0_; have HO_7 := n1_; have HB := n2_; clear n0_ n1_ n2_; (try clear hb); (try clear hb2); (try clear hk); (try clear hi)))
       go_ret
       exact ⟨by first | rfl | (simp [errW_none, errW_some] <;> rfl) | (simp [*, errW_none, errW_some] <;> rfl), by repeat (first | (with_reducible first | exact HB.out | apply below_alloc | apply pw_below_drewN | apply below_drew1) | exact HB.out)⟩
      ·replace c18 := Bool.eq_false_iff.mpr c18
       subst c18
       have H1 : ((narcissusref08_Same.f kj13 t4 t8).bind fun t13 => ((narcissusref08_Same.f kj13 l0 l1).bind fun t14 => (if (t13 == t14) = true then ((narcissuslaw08_awake.f kj13).bind fun t15 => (some t15)) else (some false)))) = some r := by rw [if_neg (show ¬ (false = true) by decide)] at H; exact H
       clear H
       have H := H1
       clear H1
       replace H := Option.bind_eq_some_iff.mp H
       obtain ⟨t13, A210, H⟩ := H
       replace H : ((narcissusref08_Same.f kj13 l0 l1).bind fun t14 => (if (t13 == t14) = true then ((narcissuslaw08_awake.f kj13).bind fun t15 => (some t15)) else (some false))) = some r := H
       have A21 := Aside0.mk A210
       clear A210
       replace H := Option.bind_eq_some_iff.mp H
       obtain ⟨t14, A220, H⟩ := H
       replace H : (if (t13 == t14) = true then ((narcissuslaw08_awake.f kj13).bind fun t15 => (some t15)) else (some false)) = some r := H
       have A22 := Aside0.mk A220
       clear A220
       by_cases c23 : (t13 == t14) = true
       ·rw [if_pos c23] at H
        have c23b0 : (t13 == t14) = true := c23
        (try (have c23b1 : decide (t13 = t14) = true := by simpa using c23))
        (try (have c23b2 : (t13 == t14) = true := by simpa using c23))
        clear c23
        replace H := Option.bind_eq_some_iff.mp H
        obtain ⟨t15, A240, H⟩ := H
        replace H : (some t15) = some r := H
        have A24 := Aside0.mk A240
        clear A240
        obtain rfl := Option.some.inj H
        obtain ⟨Ao25, co25, eo25⟩ := Kd.S_slice HO_5.out
        subst eo25
        obtain ⟨Ao26, co26, eo26⟩ := Kd.S_slice HO_7.out
        subst eo26
        go_wp2_with (first | ((with_reducible refine gate_callee (f := 16) rfl ?_); refine goesL_ (some 47) rfl rfl Tryz.func16 (by kernel_rfl) rfl #[.slice Ao25 t4.length co25, .slice Ao26 t8.length co26] rfl (by (try simp only [List.map_toArray, List.map_cons, List.map_nil]); first | done | rfl | (simp only [List.length_drop, List.length_take]; rfl)) ?_; (with_reducible refine (narcissusref08_Same.calls kj13 _ _ t4 _ _ t8 t13 _ ?side1 ?side2 ?side3 ?side4 A21.out).mono ?_); (case side1 => repeat (first | exact (Kd.S_reads' HO_5.out).2.2 | (with_reducible refine Kd.C_alloc ?_ _) | (with_reducible refine Kd.C_drewN ?_ _) | (with_reducible refine Kd.C_drew ?_))); (case side2 => exact (Kd.S_reads' HO_5.out).2.1); (case side3 => repeat (first | exact (Kd.S_reads' HO_7.out).2.2 | (with_reducible refine Kd.C_alloc ?_ _) | (with_reducible refine Kd.C_drewN ?_ _) | (with_reducible refine Kd.C_drew ?_))); (case side4 => exact (Kd.S_reads' HO_7.out).2.1); rintro e w' ⟨rfl, ⟨nd, rfl⟩⟩; refine ⟨_, rfl, ?_⟩) | ((with_reducible refine gate_callee (f := 16) rfl ?_); refine goesL_ (some 50) rfl rfl Tryz.func16 (by kernel_rfl) rfl #[.slice A0 l0.length c0, .slice A1 l1.length c1] rfl (by (try simp only [List.map_toArray, List.map_cons, List.map_nil]); first | done | rfl | (simp only [List.length_drop, List.length_take]; rfl)) ?_; (with_reducible refine (narcissusref08_Same.calls kj13 _ _ l0 _ _ l1 t14 _ ?side1 ?side2 ?side3 ?side4 A22.out).mono ?_); (case side1 => repeat (first | exact (Kd.C_below HR0.out (by repeat (first | (with_reducible first | exact HB.out | apply below_alloc | apply pw_below_drewN | apply below_drew1) | exact HB.out))) | (with_reducible refine Kd.C_alloc ?_ _) | (with_reducible refine Kd.C_drewN ?_ _) | (with_reducible refine Kd.C_drew ?_))); (case side2 => exact HC0.out); (case side3 => repeat (first | exact (Kd.C_below HR1.out (by repeat (first | (with_reducible first | exact HB.out | apply below_alloc | apply pw_below_drewN | apply below_drew1) | exact HB.out))) | (with_reducible refine Kd.C_alloc ?_ _) | (with_reducible refine Kd.C_drewN ?_ _) | (with_reducible refine Kd.C_drew ?_))); (case side4 => exact HC1.out); rintro e w' ⟨rfl, ⟨nd, rfl⟩⟩; refine ⟨_, rfl, ?_⟩) | (go_at_call 11; (with_reducible refine (narcissuslaw08_awake.calls kj13  t15 _ ?side1 A24.out).mono ?_); (case side1 => first | (refine LaidW.below HLD.out ?_; with_reducible exact HB.out) | (refine LaidW.below HLD.out ?_; with_reducible apply pw_below_drewN; with_reducible exact HB.out) | (refine LaidW.below HLD.out ?_; with_reducible apply below_alloc; with_reducible exact HB.out) | (refine LaidW.below HLD.out ?_; repeat (first | (with_reducible first | exact HB.out | apply below_alloc | apply pw_below_drewN | apply below_drew1) | exact HB.out); done) | exact HLD.out | (repeat (first | exact HLD.out | (with_reducible refine LaidW.drewN ?_ _) | (with_reducible refine LaidW.drew ?_) | (with_reducible refine LaidW.alloc ?_ _)))); rintro e w27 ⟨rfl, hb⟩; have n0_ := Aside0.mk (Kd.S_below (by (with_reducible repeat (first | apply Kd.S_alloc | apply Kd.S_drewN | apply Kd.S_drew)); exact HO_5.out) hb); have n1_ := Aside0.mk (Kd.S_below (by (with_reducible repeat (first | apply Kd.S_alloc | apply Kd.S_drewN | apply Kd.S_drew)); exact HO_7.out) hb); have n2_ := Aside0.mk (below_step (by repeat (first | (with_reducible first | exact HB.out | apply below_alloc | apply pw_below_drewN | apply below_drew1) | exact HB.out)) hb); clear HO_5; clear HO_7; clear HB; have HO_5 := n0_; have HO_7 := n1_; have HB := n2_; clear n0_ n1_ n2_; (try clear hb); (try clear hb2); (try clear hk); (try clear hi)))
        go_ret
        exact ⟨by first | rfl | (simp [errW_none, errW_some] <;> rfl) | (simp [*, errW_none, errW_some] <;> rfl), by repeat (first | (with_reducible first | exact HB.out | apply below_alloc | apply pw_below_drewN | apply below_drew1) | exact HB.out)⟩
       ·rw [if_neg c23] at H
        have c23b0 : (t13 == t14) = false := by simpa using c23
        (try (have c23b1 : decide (t13 = t14) = false := by simpa using c23))
        (try (have c23b2 : (t13 == t14) = false := by simpa using c23))
        (try (have c23b3 : ¬ (t13 = t14) := by simpa using c23))
        clear c23
        obtain rfl := Option.some.inj H
        obtain ⟨Ao28, co28, eo28⟩ := Kd.S_slice HO_5.out
        subst eo28
        obtain ⟨Ao29, co29, eo29⟩ := Kd.S_slice HO_7.out
        subst eo29
        go_wp2_with (first | ((with_reducible refine gate_callee (f := 16) rfl ?_); refine goesL_ (some 47) rfl rfl Tryz.func16 (by kernel_rfl) rfl #[.slice Ao28 t4.length co28, .slice Ao29 t8.length co29] rfl (by (try simp only [List.map_toArray, List.map_cons, List.map_nil]); first | done | rfl | (simp only [List.length_drop, List.length_take]; rfl)) ?_; (with_reducible refine (narcissusref08_Same.calls kj13 _ _ t4 _ _ t8 t13 _ ?side1 ?side2 ?side3 ?side4 A21.out).mono ?_); (case side1 => repeat (first | exact (Kd.S_reads' HO_5.out).2.2 | (with_reducible refine Kd.C_alloc ?_ _) | (with_reducible refine Kd.C_drewN ?_ _) | (with_reducible refine Kd.C_drew ?_))); (case side2 => exact (Kd.S_reads' HO_5.out).2.1); (case side3 => repeat (first | exact (Kd.S_reads' HO_7.out).2.2 | (with_reducible refine Kd.C_alloc ?_ _) | (with_reducible refine Kd.C_drewN ?_ _) | (with_reducible refine Kd.C_drew ?_))); (case side4 => exact (Kd.S_reads' HO_7.out).2.1); rintro e w' ⟨rfl, ⟨nd, rfl⟩⟩; refine ⟨_, rfl, ?_⟩) | ((with_reducible refine gate_callee (f := 16) rfl ?_); refine goesL_ (some 50) rfl rfl Tryz.func16 (by kernel_rfl) rfl #[.slice A0 l0.length c0, .slice A1 l1.length c1] rfl (by (try simp only [List.map_toArray, List.map_cons, List.map_nil]); first | done | rfl | (simp only [List.length_drop, List.length_take]; rfl)) ?_; (with_reducible refine (narcissusref08_Same.calls kj13 _ _ l0 _ _ l1 t14 _ ?side1 ?side2 ?side3 ?side4 A22.out).mono ?_); (case side1 => repeat (first | exact (Kd.C_below HR0.out (by repeat (first | (with_reducible first | exact HB.out | apply below_alloc | apply pw_below_drewN | apply below_drew1) | exact HB.out))) | (with_reducible refine Kd.C_alloc ?_ _) | (with_reducible refine Kd.C_drewN ?_ _) | (with_reducible refine Kd.C_drew ?_))); (case side2 => exact HC0.out); (case side3 => repeat (first | exact (Kd.C_below HR1.out (by repeat (first | (with_reducible first | exact HB.out | apply below_alloc | apply pw_below_drewN | apply below_drew1) | exact HB.out))) | (with_reducible refine Kd.C_alloc ?_ _) | (with_reducible refine Kd.C_drewN ?_ _) | (with_reducible refine Kd.C_drew ?_))); (case side4 => exact HC1.out); rintro e w' ⟨rfl, ⟨nd, rfl⟩⟩; refine ⟨_, rfl, ?_⟩))
        go_ret
        exact ⟨by first | rfl | (simp [errW_none, errW_some] <;> rfl) | (simp [*, errW_none, errW_some] <;> rfl), by repeat (first | (with_reducible first | exact HB.out | apply below_alloc | apply pw_below_drewN | apply below_drew1) | exact HB.out)⟩

end Go.Proofs.YtocoamgbpoommaaGreatDoor.C
end
section
/- Different lists of programs, in plain words. -/
namespace Go.Proofs.YtocoamgbpoommaaGreatDoor.Plain
open Go.Proofs.YtocoamgbpoommaaGreatDoor.C
open Go.RowKit Go.Proofs.YtocoamgbpoommaaGreatDoorW.PrintWords Go.Proofs.YtocoamgbpoommaaGreatDoorW.PrintLast Go.Proofs.YtocoamgbpoommaaGreatDoorW.PrintMore
set_option linter.unusedVariables false
set_option linter.unusedSimpArgs false

/-- A list of programs that memory may hold. -/
def FitsL (l : List (List Ins)) : Prop := ∀ x ∈ l, x.length * 48 ≤ 140737488351232 ∧ ∀ i ∈ x, i.f4.size ≤ 140737488351232
theorem sizes_fits {b : Nat} : ∀ p : List Ins, (∀ x ∈ p, x.f4.size ≤ b) → sizes p ≤ p.length * b
  | [], _ => by simp [sizes]
  | x :: p, h => by
    have ih := sizes_fits p fun y hy => h y (List.mem_cons_of_mem _ hy)
    have h1 := h x List.mem_cons_self
    have e : sizes (x :: p) = x.f4.size + sizes p := by unfold sizes; rw [List.map_cons, List.sum_cons]
    rw [e, List.length_cons, Nat.succ_mul]
    omega
theorem trees_g (p : List Ins) (hp : p.length ≤ 20000) (hf : ∀ x ∈ p, x.f4.size ≤ 140737488351232) : ∀ (d k i s : Nat), p.length - i = d → i ≤ p.length → s ≤ i * 140737488351232 → d < k →
    narcissusref02_Trees.l0 k p (s : Int) (i : Int) = some ((s + sizes (p.drop i) : Nat) : Int)
  | d, k, i, s, hd, hi, hs, hk => by
    obtain ⟨k, rfl⟩ : ∃ m, k = m + 1 := ⟨k - 1, by omega⟩
    by_cases hlt : i < p.length
    · have hdrop : p.drop i = p[i] :: p.drop (i + 1) := List.drop_eq_getElem_cons hlt
      have hx := hf p[i] (List.getElem_mem hlt)
      have hb : i * 140737488351232 ≤ 20000 * 140737488351232 := Nat.mul_le_mul_right _ (by omega)
      have hsum : sizes (p.drop i) = p[i].f4.size + sizes (p.drop (i + 1)) := by unfold sizes; rw [hdrop, List.map_cons, List.sum_cons]
      rw [narcissusref02_Trees.l0, if_pos (by omega), if_pos (by omega), rd_at p i hlt, hsum, wrap_small (by omega) (by omega), wrap_small (by omega) (by omega), show (i : Int) + 1 = ((i + 1 : Nat) : Int) from rfl, show (s : Int) + (p[i].f4.size : Int) = ((s + p[i].f4.size : Nat) : Int) from rfl]
      rw [trees_g p hp hf (p.length - (i + 1)) k (i + 1) _ rfl (by omega) (by omega) (by omega)]
      congr 2
      omega
    · rw [narcissusref02_Trees.l0, if_neg (by omega), List.drop_eq_nil_of_le (by omega)]
      simp [sizes]
  termination_by d => d
theorem trees_tells (p : List Ins) (hp : p.length ≤ 20000) (hf : ∀ x ∈ p, x.f4.size ≤ 140737488351232) (k : Nat) (hk : 20000 < k) : narcissusref02_Trees.f k p = some ((sizes p : Nat) : Int) := by
  unfold narcissusref02_Trees.f
  have ht := trees_g p hp hf p.length k 0 0 rfl (by omega) (by omega) (by omega)
  rw [show ((0 : Nat) : Int) = 0 from rfl, List.drop_zero, Nat.zero_add] at ht
  exact ht
theorem small_l (l : List (List Ins)) (hl : l.length ≤ 40) (hf : FitsL l) : ∀ (d k i s : Nat), l.length - i = d → i ≤ l.length → s ≤ 20000 + 20000 * 140737488351232 → d + 20001 < k →
    ∃ v, narcissusref07_Small.l0 k 20000 l (s : Int) (i : Int) = some v ∧ (v = true → ∀ p ∈ l.drop i, p.length ≤ 20000)
  | d, k, i, s, hd, hi, hs, hk => by
    obtain ⟨k, rfl⟩ : ∃ m, k = m + 1 := ⟨k - 1, by omega⟩
    by_cases hlt : i < l.length
    · have hdrop : l.drop i = l[i] :: l.drop (i + 1) := List.drop_eq_getElem_cons hlt
      obtain ⟨hx, hy⟩ := hf l[i] (List.getElem_mem hlt)
      rw [narcissusref07_Small.l0, if_pos (by omega), if_pos (by omega), rd_prg l i hlt, wrap_small (x := (s : Int) + 1) (by omega) (by omega), wrap_small (x := (s : Int) + 1 + (l[i].length : Int)) (by omega) (by omega)]
      by_cases hb : (s : Int) + 1 + (l[i].length : Int) > 20000
      · rw [if_pos hb]
        exact ⟨false, rfl, fun h => by cases h⟩
      · have hz := sizes_fits l[i] hy
        have hm : l[i].length * 140737488351232 ≤ 20000 * 140737488351232 := Nat.mul_le_mul_right _ (by omega)
        rw [if_neg hb, trees_tells l[i] (by omega) hy k (by omega), Option.bind_some, wrap_small (by omega) (by omega), wrap_small (by omega) (by omega), show (i : Int) + 1 = ((i + 1 : Nat) : Int) from rfl, show (s : Int) + 1 + (l[i].length : Int) + ((sizes l[i] : Nat) : Int) = ((s + 1 + l[i].length + sizes l[i] : Nat) : Int) from rfl]
        obtain ⟨v, e, hv⟩ := small_l l hl hf (l.length - (i + 1)) k (i + 1) (s + 1 + l[i].length + sizes l[i]) rfl (by omega) (by omega) (by omega)
        refine ⟨v, e, fun h p hp => ?_⟩
        rw [hdrop] at hp
        rcases List.mem_cons.1 hp with rfl | hp
        · omega
        · exact hv h p hp
    · rw [narcissusref07_Small.l0, if_neg (by omega), List.drop_eq_nil_of_le (by omega)]
      exact ⟨_, rfl, fun _ p hp => by cases hp⟩
  termination_by d => d
theorem small_tells (l : List (List Ins)) (hl : l.length ≤ 40) (hf : FitsL l) (k : Nat) (hk : 20100 ≤ k) : ∃ v, narcissusref07_Small.f k 20000 l = some v ∧ (v = true → ∀ p ∈ l, p.length ≤ 20000) := by
  unfold narcissusref07_Small.f
  have := small_l l hl hf l.length k 0 0 rfl (by omega) (by omega) (by omega)
  simpa using this
/-- What Together tells of a list that is not too long. -/
theorem together_cases (l : List (List Ins)) (hl : l.length ≤ 40) (k : Nat) (hk : 6000 ≤ k) : ∃ r e, ring_Together.f k l = some (r, e) ∧ (e = 0 → Fine l ∧ r = madeL (behind l)) := by
  by_cases h : ∀ p ∈ l, OKP p
  · by_cases h1 : 1 ≤ l.length
    · by_cases hf : Fine l
      · exact ⟨_, _, together_yes h h1 hl hf k hk, fun _ => ⟨hf, rfl⟩⟩
      · exact ⟨_, _, together_large h h1 hl hf k hk, fun h => by cases h⟩
    · exact ⟨_, _, together_arg h (.inl (by omega)) k hk, fun h => by cases h⟩
  · exact ⟨_, _, together_form h k hk, fun h => by cases h⟩
theorem made_drop (l : List (List Ins)) : (madeL (behind l)).map (List.drop 33) = l := by
  unfold madeL
  generalize bs (tabL (behind l)) = y
  unfold behind
  rw [List.map_map, List.map_map]
  refine (List.map_congr_left fun p _ => ?_).trans (List.map_id l)
  show List.drop 33 (specHead y ++ (ringHead ++ p)) = p
  rw [← List.append_assoc, List.drop_left' (by rfl)]
theorem made_inj {l m : List (List Ins)} : madeL (behind l) = madeL (behind m) ↔ l = m := by
  refine ⟨fun h => ?_, fun h => by rw [h]⟩
  rw [← made_drop l, ← made_drop m, h]
/-- The law of different rings. -/
theorem ringDifferent_plain (l m : List (List Ins)) (hl : FitsL l) (hm : FitsL m) : narcissuslaw08_RingDifferent.f 3000000 l m = some true := by
  have hj0 : ∀ k, 20000 ≤ k → narcissuslaw08_RingDifferent.j0 (k + 1) l m true = some true := fun k hk => by
    rw [narcissuslaw08_RingDifferent.j0, if_pos rfl, awake_ok k (by omega)]; rfl
  have hj1 : ∀ k a b, 20000 ≤ k → narcissuslaw08_RingDifferent.j1 (k + 1) l m a b true = some true := fun k a b hk => by
    rw [narcissuslaw08_RingDifferent.j1, if_pos rfl, awake_ok k (by omega)]; rfl
  have e3 : (3000000 : Nat) = 2999999 + 1 := rfl
  have e2 : (2999999 : Nat) = 2999998 + 1 := rfl
  unfold narcissuslaw08_RingDifferent.f
  by_cases h1 : (l.length : Int) > 40
  · rw [if_pos h1, e3]; exact hj0 _ (by omega)
  rw [if_neg h1]
  by_cases h2 : (m.length : Int) > 40
  · rw [if_pos h2, e3]; exact hj0 _ (by omega)
  rw [if_neg h2]
  obtain ⟨v, ev, hv⟩ := small_tells l (by omega) hl 3000000 (by omega)
  obtain ⟨u, eu, hu⟩ := small_tells m (by omega) hm 3000000 (by omega)
  rw [ev, Option.bind_some, eu, Option.bind_some]
  cases v with
  | false => rw [if_neg (by decide), e3]; exact hj0 _ (by omega)
  | true =>
    rw [if_pos rfl]
    cases u with
    | false => rw [e3]; exact hj0 _ (by omega)
    | true =>
      obtain ⟨a, e, ea, ha⟩ := together_cases l (by omega) 2999999 (by omega)
      obtain ⟨b, f, eb, hb⟩ := together_cases m (by omega) 2999999 (by omega)
      rw [e3, narcissuslaw08_RingDifferent.j0, if_neg (by decide), ea, Option.bind_some, eb, Option.bind_some]
      by_cases he : e = 0
      · rw [if_pos he]
        by_cases hf : f = 0
        · subst he; subst hf
          obtain ⟨fa, rfl⟩ := ha rfl
          obtain ⟨fb, rfl⟩ := hb rfl
          obtain ⟨v, e4, h4⟩ := sameL_tells (madeL (behind l)) (madeL (behind m)) (by unfold madeL behind; rw [List.length_map, List.length_map]; omega) (made_small fa) 2999998 (by omega)
          obtain ⟨u, e5, h5⟩ := sameL_tells l m (by omega) (fun p hp => by have := hv rfl p hp; omega) 2999998 (by omega)
          rw [show ((0 : Int) != 0) = false from rfl, e2, narcissuslaw08_RingDifferent.j1, if_neg (by decide), e4, Option.bind_some, e5, Option.bind_some]
          have hvu : v = u := Bool.eq_iff_iff.2 (h4.trans (made_inj.trans h5.symm))
          rw [if_pos (by rw [hvu]; exact beq_self_eq_true u), awake_ok _ (by omega)]
          rfl
        · rw [show (f != 0) = true from by simpa using hf, e2]; exact hj1 _ _ _ (by omega)
      · rw [if_neg he, e2]; exact hj1 _ _ _ (by omega)
end Go.Proofs.YtocoamgbpoommaaGreatDoor.Plain
end
section
/- Programs that know each other, in plain words: each does what the one of the list does on the pair of the list of the codes and the input. -/
namespace Go.Proofs.YtocoamgbpoommaaGreatDoor.Plain
open Go.Proofs.YtocoamgbpoommaaGreatDoor.C
open Go.RowKit Go.Proofs.YtocoamgbpoommaaGreatDoorW.PrintWords Go.Proofs.YtocoamgbpoommaaGreatDoorW.PrintLast Go.Proofs.YtocoamgbpoommaaGreatDoorW.PrintMore
set_option linter.unusedVariables false
set_option linter.unusedSimpArgs false

theorem made_at (l : List (List Ins)) (j : Nat) (hj : j < l.length) : (madeL (behind l))[j]'(by rw [made_length, behind_length]; exact hj) = specHead (bs (tabL (behind l))) ++ ringHead ++ l[j] := by
  rw [List.append_assoc]
  unfold madeL
  rw [List.getElem_map]
  congr 1
  unfold behind
  rw [List.getElem_map]
/-- What a run comes to, after so many steps more. -/
def later (m : Nat) (q : Tr × Nat × Int) : Tr × Nat × Int := (q.1, if q.2.2 = 0 then q.2.1 + m else 0, q.2.2)
theorem knows_run (l : List (List Ins)) (hok : ∀ p ∈ l, OKP p) (hf : Fine l) (j : Nat) (hj : j < l.length) (x : Tr) (hz : 1 + (lstT ((madeL (behind l)).map codeT)).size + x.size ≤ 2000000) :
    runM ((madeL (behind l))[j]'(by rw [made_length, behind_length]; exact hj)) x (20000 + (24 + 11 * l.length)) = later (24 + 11 * l.length) (runM l[j] (.cons (lstT ((madeL (behind l)).map codeT)) x) 20000) := by
  have hN : ∀ p ∈ l, ∀ x ∈ ringHead ++ p, Nice x := fun p hp => okp_nice (hf.1.1 _ (List.mem_map.2 ⟨p, hp, rfl⟩))
  have hp := hok l[j] (List.getElem_mem hj)
  have hb := ring_begins l hN l[j] (List.getElem_mem hj) x hz
  have hr := run_behind (pre := specHead (bs (tabL (behind l))) ++ ringHead) (p := l[j]) (m := 24 + 11 * l.length) (x := x) (y := .cons (lstT ((madeL (behind l)).map codeT)) x) (fun i hi => by
    have := (okp_iff.1 hp).2.2 i hi
    rw [List.getD_eq_getElem?_getD, List.getElem?_eq_getElem hi]
    exact this) hb 20000
  rw [made_at l j hj, Nat.add_comm 20000]
  exact hr
end Go.Proofs.YtocoamgbpoommaaGreatDoor.Plain
end
