/- Texts of this claim, together: what the functions return, and what they say in plain words. -/
import Derived.Test.YtocoamgbpoommaaGreatDoorUB
import Derived.Test.YtocoamgbpoommaaGreatDoorUV
import Derived.Test.YtocoamgbpoommaaGreatDoorUAD
import Derived.Test.YtocoamgbpoommaaGreatDoorUAC
import Derived.Test.YtocoamgbpoommaaGreatDoorUY
import Derived.Test.YtocoamgbpoommaaGreatDoorUZ
import Derived.Test.YtocoamgbpoommaaGreatDoorUW
import Derived.Test.YtocoamgbpoommaaGreatDoorUAB
section
namespace Go.Proofs.YtocoamgbpoommaaGreatDoor.C
open Go.RowKit Go.Proofs.YtocoamgbpoommaaGreatDoorW.PrintWords Go.Proofs.YtocoamgbpoommaaGreatDoorW.PrintLast Go.Proofs.YtocoamgbpoommaaGreatDoorW.PrintMore
attribute [local go_sem] max2_int min2_int max_two min_two max_three min_three max_four min_four
set_option linter.unusedVariables false
set_option linter.unusedSimpArgs false
def narcissusref07_Know.f (k : Nat) (l0 : List (S72)) : Option ((List (S72)) × Bool) := (narcissusref07_Behind.f k l0).bind fun t1 => ((narcissusref07_Coded.f k t1).bind fun bt4 => (if bt4.2 = true then ((narcissusref05_Spec.f t1 bt4.1).bind fun t6 => ((narcissusref07_Coded.f k t6).bind fun bt9 => (if bt9.2 = true then (some (t6, true)) else (some (([] : List (S72)), false))))) else (some (([] : List (S72)), false))))
set_option maxHeartbeats 8000000 in
set_option maxRecDepth 100000 in
theorem narcissusref07_Know.calls (k : Nat) (A0 : Option Addr) (c0 : Nat) (l0 : List (S72)) (r1 : List (S72)) (r2 : Bool) (w : World) (hr0 : Kd.C k72 w A0 l0.length l0) (hc0 : l0.length ≤ c0) (h : narcissusref07_Know.f k l0 = some (r1, r2)) :
  Calls Tryz.prog 69 #[.slice A0 l0.length c0] w fun e w' => ∃ v0_ : Value, e = .returned (.tuple #[v0_, .bool r2]) ∧ Kd.R k72 72 w' w.heap.size (fun _ => True) v0_ r1 ∧ Below w.heap.size w w' := by
 have HR0 := Aside0.mk hr0
 have HC0 := Aside0.mk hc0
 clear hr0 hc0
 have HB := Aside0.mk (Below.refl w.heap.size w)
 have H : ((narcissusref07_Behind.f k l0).bind fun t1 => ((narcissusref07_Coded.f k t1).bind fun bt4 => (if bt4.2 = true then ((narcissusref05_Spec.f t1 bt4.1).bind fun t6 => ((narcissusref07_Coded.f k t6).bind fun bt9 => (if bt9.2 = true then (some (t6, true)) else (some (([] : List (S72)), false))))) else (some (([] : List (S72)), false))))) = some (r1, r2) := h
 clear h
 replace H := Option.bind_eq_some_iff.mp H
 obtain ⟨t1, A20, H⟩ := H
 replace H : ((narcissusref07_Coded.f k t1).bind fun bt4 => (if bt4.2 = true then ((narcissusref05_Spec.f t1 bt4.1).bind fun t6 => ((narcissusref07_Coded.f k t6).bind fun bt9 => (if bt9.2 = true then (some (t6, true)) else (some (([] : List (S72)), false))))) else (some (([] : List (S72)), false)))) = some (r1, r2) := H
 have A2 := Aside0.mk A20
 clear A20
 replace H := Option.bind_eq_some_iff.mp H
 obtain ⟨⟨t4, t5⟩, A30, H⟩ := H
 replace H : (if t5 = true then ((narcissusref05_Spec.f t1 t4).bind fun t6 => ((narcissusref07_Coded.f k t6).bind fun bt9 => (if bt9.2 = true then (some (t6, true)) else (some (([] : List (S72)), false))))) else (some (([] : List (S72)), false))) = some (r1, r2) := H
 have A3 := Aside0.mk A30
 clear A30
 by_cases c4 : t5 = true
 ·subst c4
  have H1 : ((narcissusref05_Spec.f t1 t4).bind fun t6 => ((narcissusref07_Coded.f k t6).bind fun bt9 => (if bt9.2 = true then (some (t6, true)) else (some (([] : List (S72)), false))))) = some (r1, r2) := by rw [if_pos rfl] at H; exact H
  clear H
  have H := H1
  clear H1
  replace H := Option.bind_eq_some_iff.mp H
  obtain ⟨t6, A50, H⟩ := H
  replace H : ((narcissusref07_Coded.f k t6).bind fun bt9 => (if bt9.2 = true then (some (t6, true)) else (some (([] : List (S72)), false)))) = some (r1, r2) := H
  have A5 := Aside0.mk A50
  clear A50
  replace H := Option.bind_eq_some_iff.mp H
  obtain ⟨⟨t9, t10⟩, A60, H⟩ := H
  replace H : (if t10 = true then (some (t6, true)) else (some (([] : List (S72)), false))) = some (r1, r2) := H
  have A6 := Aside0.mk A60
  clear A60
  by_cases c7 : t10 = true
  ·subst c7
   have H1 : (some (t6, true)) = some (r1, r2) := by rw [if_pos rfl] at H; exact H
   clear H
   have H := H1
   clear H1
   simp only [Option.some.injEq, Prod.mk.injEq] at H
   obtain ⟨rfl, rfl⟩ := H
   go_enter Tryz.func69, Tryz.ntmps69
   go_wp2_with (first | ((with_reducible refine gate_callee (f := 86) rfl ?_); refine goesL_ (some 9) rfl rfl Tryz.func86 (by kernel_rfl) rfl #[.slice A0 l0.length c0] rfl (by (try simp only [List.map_toArray, List.map_cons, List.map_nil]); first | done | rfl | (simp only [List.length_drop, List.length_take]; rfl)) ?_; (with_reducible refine (narcissusref07_Behind.calls k _ _ l0 t1 _ ?side1 ?side2 A2.out).mono ?_); (case side1 => repeat (first | exact HR0.out | (with_reducible refine Kd.C_alloc ?_ _) | (with_reducible refine Kd.C_drewN ?_ _) | (with_reducible refine Kd.C_drew ?_))); (case side2 => exact HC0.out); rintro e w8 ⟨v2, rfl, ho0, hb⟩; refine ⟨_, rfl, ?_⟩; have n0_ := Aside0.mk (Kd.R_lower ho0 (below_size (by repeat (first | (with_reducible first | exact HB.out | apply below_alloc | apply pw_below_drewN | apply below_drew1) | exact HB.out)))); have n1_ := Aside0.mk (below_step (by repeat (first | (with_reducible first | exact HB.out | apply below_alloc | apply pw_below_drewN | apply below_drew1) | exact HB.out)) hb); clear HB; have HO3 := n0_; have HB := n1_; clear n0_ n1_; (try clear hb); (try clear hb2); (try clear hk); (try clear hi); (try clear ho0); obtain ⟨Ao9, co9, eo9⟩ := Kd.R_slice HO3.out; subst eo9) | ((with_reducible refine gate_callee (f := 47) rfl ?_); refine goesL_ (some 12) rfl rfl Tryz.func47 (by kernel_rfl) rfl #[.slice Ao9 t1.length co9] rfl (by (try simp only [List.map_toArray, List.map_cons, List.map_nil]); first | done | rfl | (simp only [List.length_drop, List.length_take]; rfl)) ?_; (with_reducible refine (narcissusref07_Coded.calls k _ _ t1 t4 true _ ?side1 ?side2 A3.out).mono ?_); (case side1 => repeat (first | exact (Kd.R_reads' HO3.out).2.2 | (with_reducible refine Kd.C_alloc ?_ _) | (with_reducible refine Kd.C_drewN ?_ _) | (with_reducible refine Kd.C_drew ?_))); (case side2 => exact (Kd.R_reads' HO3.out).2.1); rintro e w10 ⟨rfl, hb⟩; refine ⟨_, rfl, ?_⟩; have n0_ := Aside0.mk (Kd.R_below (by (with_reducible repeat (first | apply Kd.R_alloc | apply Kd.R_drewN | apply Kd.R_drew)); exact HO3.out) hb); have n1_ := Aside0.mk (below_step (by repeat (first | (with_reducible first | exact HB.out | apply below_alloc | apply pw_below_drewN | apply below_drew1) | exact HB.out)) hb); clear HO3; clear HB; have HO3 := n0_; have HB := n1_; clear n0_ n1_; (try clear hb); (try clear hb2); (try clear hk); (try clear hi)) | ((with_reducible refine gate_callee (f := 39) rfl ?_); refine goesL_ (some 19) rfl rfl Tryz.func39 (by kernel_rfl) rfl #[.slice Ao9 t1.length co9, .string t4] rfl (by (try simp only [List.map_toArray, List.map_cons, List.map_nil]); first | done | rfl | (simp only [List.length_drop, List.length_take]; rfl)) ?_; (with_reducible refine (narcissusref05_Spec.calls _ _ t1 t4 t6 _ ?side1 ?side2 A5.out).mono ?_); (case side1 => repeat (first | exact (Kd.R_reads' HO3.out).2.2 | (with_reducible refine Kd.C_alloc ?_ _) | (with_reducible refine Kd.C_drewN ?_ _) | (with_reducible refine Kd.C_drew ?_))); (case side2 => exact (Kd.R_reads' HO3.out).2.1); rintro e w11 ⟨v7, rfl, ho0, hb⟩; refine ⟨_, rfl, ?_⟩; have n0_ := Aside0.mk (Kd.R_elder' (by (with_reducible repeat (first | apply Kd.R_alloc | apply Kd.R_drewN | apply Kd.R_drew)); exact HO3.out) (Kd.R_base ho0) hb); have n1_ := Aside0.mk (Kd.R_lower (Kd.R_new' ho0 (Kd.R_lt (by (with_reducible repeat (first | apply Kd.R_alloc | apply Kd.R_drewN | apply Kd.R_drew)); exact HO3.out))) (below_size (by repeat (first | (with_reducible first | exact HB.out | apply below_alloc | apply pw_below_drewN | apply below_drew1) | exact HB.out)))); have n2_ := Aside0.mk (below_step (by repeat (first | (with_reducible first | exact HB.out | apply below_alloc | apply pw_below_drewN | apply below_drew1) | exact HB.out)) hb); clear HO3; clear HB; have HO3 := n0_; have HO8 := n1_; have HB := n2_; clear n0_ n1_ n2_; (try clear hb); (try clear hb2); (try clear hk); (try clear hi); (try clear ho0); obtain ⟨Ao12, co12, eo12⟩ := Kd.R_slice HO8.out; subst eo12) | ((with_reducible refine gate_callee (f := 47) rfl ?_); refine goesL_ (some 22) rfl rfl Tryz.func47 (by kernel_rfl) rfl #[.slice Ao12 t6.length co12] rfl (by (try simp only [List.map_toArray, List.map_cons, List.map_nil]); first | done | rfl | (simp only [List.length_drop, List.length_take]; rfl)) ?_; (with_reducible refine (narcissusref07_Coded.calls k _ _ t6 t9 true _ ?side1 ?side2 A6.out).mono ?_); (case side1 => repeat (first | exact (Kd.R_reads' HO8.out).2.2 | (with_reducible refine Kd.C_alloc ?_ _) | (with_reducible refine Kd.C_drewN ?_ _) | (with_reducible refine Kd.C_drew ?_))); (case side2 => exact (Kd.R_reads' HO8.out).2.1); rintro e w13 ⟨rfl, hb⟩; refine ⟨_, rfl, ?_⟩; have n0_ := Aside0.mk (Kd.R_below (by (with_reducible repeat (first | apply Kd.R_alloc | apply Kd.R_drewN | apply Kd.R_drew)); exact HO3.out) hb); have n1_ := Aside0.mk (Kd.R_below (by (with_reducible repeat (first | apply Kd.R_alloc | apply Kd.R_drewN | apply Kd.R_drew)); exact HO8.out) hb); have n2_ := Aside0.mk (below_step (by repeat (first | (with_reducible first | exact HB.out | apply below_alloc | apply pw_below_drewN | apply below_drew1) | exact HB.out)) hb); clear HO3; clear HO8; clear HB; have HO3 := n0_; have HO8 := n1_; have HB := n2_; clear n0_ n1_ n2_; (try clear hb); (try clear hb2); (try clear hk); (try clear hi)))
   go_ret2
   exact ⟨_, by first | rfl | (simp [errW_none, errW_some] <;> rfl) | (simp [*, errW_none, errW_some] <;> rfl), by (with_reducible repeat (first | apply Kd.R_alloc | apply Kd.R_drewN | apply Kd.R_drew)); exact Kd.R_mono HO8.out (fun _ hk => trivial), by repeat (first | (with_reducible first | exact HB.out | apply below_alloc | apply pw_below_drewN | apply below_drew1) | exact HB.out)⟩
  ·replace c7 := Bool.eq_false_iff.mpr c7
   subst c7
   have H1 : (some (([] : List (S72)), false)) = some (r1, r2) := by rw [if_neg (show ¬ (false = true) by decide)] at H; exact H
   clear H
   have H := H1
   clear H1
   simp only [Option.some.injEq, Prod.mk.injEq] at H
   obtain ⟨rfl, rfl⟩ := H
   go_enter Tryz.func69, Tryz.ntmps69
   go_wp2_with (first | ((with_reducible refine gate_callee (f := 86) rfl ?_); refine goesL_ (some 9) rfl rfl Tryz.func86 (by kernel_rfl) rfl #[.slice A0 l0.length c0] rfl (by (try simp only [List.map_toArray, List.map_cons, List.map_nil]); first | done | rfl | (simp only [List.length_drop, List.length_take]; rfl)) ?_; (with_reducible refine (narcissusref07_Behind.calls k _ _ l0 t1 _ ?side1 ?side2 A2.out).mono ?_); (case side1 => repeat (first | exact HR0.out | (with_reducible refine Kd.C_alloc ?_ _) | (with_reducible refine Kd.C_drewN ?_ _) | (with_reducible refine Kd.C_drew ?_))); (case side2 => exact HC0.out); rintro e w14 ⟨v2, rfl, ho0, hb⟩; refine ⟨_, rfl, ?_⟩; have n0_ := Aside0.mk (Kd.R_lower ho0 (below_size (by repeat (first | (with_reducible first | exact HB.out | apply below_alloc | apply pw_below_drewN | apply below_drew1) | exact HB.out)))); have n1_ := Aside0.mk (below_step (by repeat (first | (with_reducible first | exact HB.out | apply below_alloc | apply pw_below_drewN | apply below_drew1) | exact HB.out)) hb); clear HB; have HO3 := n0_; have HB := n1_; clear n0_ n1_; (try clear hb); (try clear hb2); (try clear hk); (try clear hi); (try clear ho0); obtain ⟨Ao15, co15, eo15⟩ := Kd.R_slice HO3.out; subst eo15) | ((with_reducible refine gate_callee (f := 47) rfl ?_); refine goesL_ (some 12) rfl rfl Tryz.func47 (by kernel_rfl) rfl #[.slice Ao15 t1.length co15] rfl (by (try simp only [List.map_toArray, List.map_cons, List.map_nil]); first | done | rfl | (simp only [List.length_drop, List.length_take]; rfl)) ?_; (with_reducible refine (narcissusref07_Coded.calls k _ _ t1 t4 true _ ?side1 ?side2 A3.out).mono ?_); (case side1 => repeat (first | exact (Kd.R_reads' HO3.out).2.2 | (with_reducible refine Kd.C_alloc ?_ _) | (with_reducible refine Kd.C_drewN ?_ _) | (with_reducible refine Kd.C_drew ?_))); (case side2 => exact (Kd.R_reads' HO3.out).2.1); rintro e w16 ⟨rfl, hb⟩; refine ⟨_, rfl, ?_⟩; have n0_ := Aside0.mk (Kd.R_below (by (with_reducible repeat (first | apply Kd.R_alloc | apply Kd.R_drewN | apply Kd.R_drew)); exact HO3.out) hb); have n1_ := Aside0.mk (below_step (by repeat (first | (with_reducible first | exact HB.out | apply below_alloc | apply pw_below_drewN | apply below_drew1) | exact HB.out)) hb); clear HO3; clear HB; have HO3 := n0_; have HB := n1_; clear n0_ n1_; (try clear hb); (try clear hb2); (try clear hk); (try clear hi)) | ((with_reducible refine gate_callee (f := 39) rfl ?_); refine goesL_ (some 19) rfl rfl Tryz.func39 (by kernel_rfl) rfl #[.slice Ao15 t1.length co15, .string t4] rfl (by (try simp only [List.map_toArray, List.map_cons, List.map_nil]); first | done | rfl | (simp only [List.length_drop, List.length_take]; rfl)) ?_; (with_reducible refine (narcissusref05_Spec.calls _ _ t1 t4 t6 _ ?side1 ?side2 A5.out).mono ?_); (case side1 => repeat (first | exact (Kd.R_reads' HO3.out).2.2 | (with_reducible refine Kd.C_alloc ?_ _) | (with_reducible refine Kd.C_drewN ?_ _) | (with_reducible refine Kd.C_drew ?_))); (case side2 => exact (Kd.R_reads' HO3.out).2.1); rintro e w17 ⟨v7, rfl, ho0, hb⟩; refine ⟨_, rfl, ?_⟩; have n0_ := Aside0.mk (Kd.R_elder' (by (with_reducible repeat (first | apply Kd.R_alloc | apply Kd.R_drewN | apply Kd.R_drew)); exact HO3.out) (Kd.R_base ho0) hb); have n1_ := Aside0.mk (Kd.R_lower (Kd.R_new' ho0 (Kd.R_lt (by (with_reducible repeat (first | apply Kd.R_alloc | apply Kd.R_drewN | apply Kd.R_drew)); exact HO3.out))) (below_size (by repeat (first | (with_reducible first | exact HB.out | apply below_alloc | apply pw_below_drewN | apply below_drew1) | exact HB.out)))); have n2_ := Aside0.mk (below_step (by repeat (first | (with_reducible first | exact HB.out | apply below_alloc | apply pw_below_drewN | apply below_drew1) | exact HB.out)) hb); clear HO3; clear HB; have HO3 := n0_; have HO8 := n1_; have HB := n2_; clear n0_ n1_ n2_; (try clear hb); (try clear hb2); (try clear hk); (try clear hi); (try clear ho0); obtain ⟨Ao18, co18, eo18⟩ := Kd.R_slice HO8.out; subst eo18) | ((with_reducible refine gate_callee (f := 47) rfl ?_); refine goesL_ (some 22) rfl rfl Tryz.func47 (by kernel_rfl) rfl #[.slice Ao18 t6.length co18] rfl (by (try simp only [List.map_toArray, List.map_cons, List.map_nil]); first | done | rfl | (simp only [List.length_drop, List.length_take]; rfl)) ?_; (with_reducible refine (narcissusref07_Coded.calls k _ _ t6 t9 false _ ?side1 ?side2 A6.out).mono ?_); (case side1 => repeat (first | exact (Kd.R_reads' HO8.out).2.2 | (with_reducible refine Kd.C_alloc ?_ _) | (with_reducible refine Kd.C_drewN ?_ _) | (with_reducible refine Kd.C_drew ?_))); (case side2 => exact (Kd.R_reads' HO8.out).2.1); rintro e w19 ⟨rfl, hb⟩; refine ⟨_, rfl, ?_⟩; have n0_ := Aside0.mk (Kd.R_below (by (with_reducible repeat (first | apply Kd.R_alloc | apply Kd.R_drewN | apply Kd.R_drew)); exact HO3.out) hb); have n1_ := Aside0.mk (Kd.R_below (by (with_reducible repeat (first | apply Kd.R_alloc | apply Kd.R_drewN | apply Kd.R_drew)); exact HO8.out) hb); have n2_ := Aside0.mk (below_step (by repeat (first | (with_reducible first | exact HB.out | apply below_alloc | apply pw_below_drewN | apply below_drew1) | exact HB.out)) hb); clear HO3; clear HO8; clear HB; have HO3 := n0_; have HO8 := n1_; have HB := n2_; clear n0_ n1_ n2_; (try clear hb); (try clear hb2); (try clear hk); (try clear hi)))
   go_ret2
   exact ⟨_, by first | rfl | (simp [errW_none, errW_some] <;> rfl) | (simp [*, errW_none, errW_some] <;> rfl), by first | exact Kd.R_nil _ _ _ _ _ | exact Kd.N_nil _ _ _ _ _ | exact Kd.V_nil _ _ _ _ _ | exact Kd.Q_nil _ _ _ _ _ | exact Kd.S_nil _ _ _ _ _, by repeat (first | (with_reducible first | exact HB.out | apply below_alloc | apply pw_below_drewN | apply below_drew1) | exact HB.out)⟩
 ·replace c4 := Bool.eq_false_iff.mpr c4
  subst c4
  have H1 : (some (([] : List (S72)), false)) = some (r1, r2) := by rw [if_neg (show ¬ (false = true) by decide)] at H; exact H
  clear H
  have H := H1
  clear H1
  simp only [Option.some.injEq, Prod.mk.injEq] at H
  obtain ⟨rfl, rfl⟩ := H
  go_enter Tryz.func69, Tryz.ntmps69
  go_wp2_with (first | ((with_reducible refine gate_callee (f := 86) rfl ?_); refine goesL_ (some 9) rfl rfl Tryz.func86 (by kernel_rfl) rfl #[.slice A0 l0.length c0] rfl (by (try simp only [List.map_toArray, List.map_cons, List.map_nil]); first | done | rfl | (simp only [List.length_drop, List.length_take]; rfl)) ?_; (with_reducible refine (narcissusref07_Behind.calls k _ _ l0 t1 _ ?side1 ?side2 A2.out).mono ?_); (case side1 => repeat (first | exact HR0.out | (with_reducible refine Kd.C_alloc ?_ _) | (with_reducible refine Kd.C_drewN ?_ _) | (with_reducible refine Kd.C_drew ?_))); (case side2 => exact HC0.out); rintro e w20 ⟨v2, rfl, ho0, hb⟩; refine ⟨_, rfl, ?_⟩; have n0_ := Aside0.mk (Kd.R_lower ho0 (below_size (by repeat (first | (with_reducible first | exact HB.out | apply below_alloc | apply pw_below_drewN | apply below_drew1) | exact HB.out)))); have n1_ := Aside0.mk (below_step (by repeat (first | (with_reducible first | exact HB.out | apply below_alloc | apply pw_below_drewN | apply below_drew1) | exact HB.out)) hb); clear HB; have HO3 := n0_; have HB := n1_; clear n0_ n1_; (try clear hb); (try clear hb2); (try clear hk); (try clear hi); (try clear ho0); obtain ⟨Ao21, co21, eo21⟩ := Kd.R_slice HO3.out; subst eo21) | ((with_reducible refine gate_callee (f := 47) rfl ?_); refine goesL_ (some 12) rfl rfl Tryz.func47 (by kernel_rfl) rfl #[.slice Ao21 t1.length co21] rfl (by (try simp only [List.map_toArray, List.map_cons, List.map_nil]); first | done | rfl | (simp only [List.length_drop, List.length_take]; rfl)) ?_; (with_reducible refine (narcissusref07_Coded.calls k _ _ t1 t4 false _ ?side1 ?side2 A3.out).mono ?_); (case side1 => repeat (first | exact (Kd.R_reads' HO3.out).2.2 | (with_reducible refine Kd.C_alloc ?_ _) | (with_reducible refine Kd.C_drewN ?_ _) | (with_reducible refine Kd.C_drew ?_))); (case side2 => exact (Kd.R_reads' HO3.out).2.1); rintro e w22 ⟨rfl, hb⟩; refine ⟨_, rfl, ?_⟩; have n0_ := Aside0.mk (Kd.R_below (by (with_reducible repeat (first | apply Kd.R_alloc | apply Kd.R_drewN | apply Kd.R_drew)); exact HO3.out) hb); have n1_ := Aside0.mk (below_step (by repeat (first | (with_reducible first | exact HB.out | apply below_alloc | apply pw_below_drewN | apply below_drew1) | exact HB.out)) hb); clear HO3; clear HB; have HO3 := n0_; have HB := n1_; clear n0_ n1_; (try clear hb); (try clear hb2); (try clear hk); (try clear hi)))
  go_ret2
  exact ⟨_, by first | rfl | (simp [errW_none, errW_some] <;> rfl) | (simp [*, errW_none, errW_some] <;> rfl), by first | exact Kd.R_nil _ _ _ _ _ | exact Kd.N_nil _ _ _ _ _ | exact Kd.V_nil _ _ _ _ _ | exact Kd.Q_nil _ _ _ _ _ | exact Kd.S_nil _ _ _ _ _, by repeat (first | (with_reducible first | exact HB.out | apply below_alloc | apply pw_below_drewN | apply below_drew1) | exact HB.out)⟩
end Go.Proofs.YtocoamgbpoommaaGreatDoor.C
end
section
namespace Go.Proofs.YtocoamgbpoommaaGreatDoor.C
open Go.RowKit Go.Proofs.YtocoamgbpoommaaGreatDoorW.PrintWords Go.Proofs.YtocoamgbpoommaaGreatDoorW.PrintLast Go.Proofs.YtocoamgbpoommaaGreatDoorW.PrintMore
attribute [local go_sem] max2_int min2_int max_two min_two max_three min_three max_four min_four
set_option linter.unusedVariables false
set_option linter.unusedSimpArgs false
def narcissusref07_Made.f (k : Nat) (l0 : List (S72)) : Option ((List (S72)) × Int) := (narcissusref04_Fits.f k l0).bind fun t1 => (if t1 = true then ((narcissusref07_Know.f k l0).bind fun bt2 => ((narcissusref07_told.f bt2.1 bt2.2).bind fun bt6 => (some (bt6.1, bt6.2)))) else (some (([] : List (S72)), 3)))
set_option maxHeartbeats 8000000 in
set_option maxRecDepth 100000 in
theorem narcissusref07_Made.calls (k : Nat) (A0 : Option Addr) (c0 : Nat) (l0 : List (S72)) (r1 : List (S72)) (r2 : Int) (w : World) (hr0 : Kd.C k72 w A0 l0.length l0) (hc0 : l0.length ≤ c0) (h : narcissusref07_Made.f k l0 = some (r1, r2)) :
  Calls Tryz.prog 51 #[.slice A0 l0.length c0] w fun e w' => ∃ v0_ : Value, e = .returned (.tuple #[v0_, .int .i64 r2]) ∧ Kd.R k72 72 w' w.heap.size (fun _ => True) v0_ r1 ∧ Below w.heap.size w w' := by
 have HR0 := Aside0.mk hr0
 have HC0 := Aside0.mk hc0
 clear hr0 hc0
 have HB := Aside0.mk (Below.refl w.heap.size w)
 have H : ((narcissusref04_Fits.f k l0).bind fun t1 => (if t1 = true then ((narcissusref07_Know.f k l0).bind fun bt2 => ((narcissusref07_told.f bt2.1 bt2.2).bind fun bt6 => (some (bt6.1, bt6.2)))) else (some (([] : List (S72)), 3)))) = some (r1, r2) := h
 clear h
 replace H := Option.bind_eq_some_iff.mp H
 obtain ⟨t1, A20, H⟩ := H
 replace H : (if t1 = true then ((narcissusref07_Know.f k l0).bind fun bt2 => ((narcissusref07_told.f bt2.1 bt2.2).bind fun bt6 => (some (bt6.1, bt6.2)))) else (some (([] : List (S72)), 3))) = some (r1, r2) := H
 have A2 := Aside0.mk A20
 clear A20
 by_cases c3 : t1 = true
 ·subst c3
  have H1 : ((narcissusref07_Know.f k l0).bind fun bt2 => ((narcissusref07_told.f bt2.1 bt2.2).bind fun bt6 => (some (bt6.1, bt6.2)))) = some (r1, r2) := by rw [if_pos rfl] at H; exact H
  clear H
  have H := H1
  clear H1
  replace H := Option.bind_eq_some_iff.mp H
  obtain ⟨⟨t2, t3⟩, A40, H⟩ := H
  replace H : ((narcissusref07_told.f t2 t3).bind fun bt6 => (some (bt6.1, bt6.2))) = some (r1, r2) := H
  have A4 := Aside0.mk A40
  clear A40
  replace H := Option.bind_eq_some_iff.mp H
  obtain ⟨⟨t6, t9⟩, A50, H⟩ := H
  replace H : (some (t6, t9)) = some (r1, r2) := H
  have A5 := Aside0.mk A50
  clear A50
  simp only [Option.some.injEq, Prod.mk.injEq] at H
  obtain ⟨rfl, rfl⟩ := H
  go_enter Tryz.func51, Tryz.ntmps51
  go_wp2_with (first | ((with_reducible refine gate_callee (f := 63) rfl ?_); refine goesL_ (some 5) rfl rfl Tryz.func63 (by kernel_rfl) rfl #[.slice A0 l0.length c0] rfl (by (try simp only [List.map_toArray, List.map_cons, List.map_nil]); first | done | rfl | (simp only [List.length_drop, List.length_take]; rfl)) ?_; (with_reducible refine (narcissusref04_Fits.calls k _ _ l0 true _ ?side1 ?side2 A2.out).mono ?_); (case side1 => repeat (first | exact HR0.out | (with_reducible refine Kd.C_alloc ?_ _) | (with_reducible refine Kd.C_drewN ?_ _) | (with_reducible refine Kd.C_drew ?_))); (case side2 => exact HC0.out); rintro e w' ⟨rfl, ⟨nd, rfl⟩⟩; refine ⟨_, rfl, ?_⟩) | ((with_reducible refine gate_callee (f := 69) rfl ?_); refine goesL_ (some 8) rfl rfl Tryz.func69 (by kernel_rfl) rfl #[.slice A0 l0.length c0] rfl (by (try simp only [List.map_toArray, List.map_cons, List.map_nil]); first | done | rfl | (simp only [List.length_drop, List.length_take]; rfl)) ?_; (with_reducible refine (narcissusref07_Know.calls k _ _ l0 t2 t3 _ ?side1 ?side2 A4.out).mono ?_); (case side1 => repeat (first | exact HR0.out | (with_reducible refine Kd.C_alloc ?_ _) | (with_reducible refine Kd.C_drewN ?_ _) | (with_reducible refine Kd.C_drew ?_))); (case side2 => exact HC0.out); rintro e w6 ⟨v4, rfl, ho0, hb⟩; refine ⟨_, rfl, ?_⟩; have n0_ := Aside0.mk (Kd.R_lower ho0 (below_size (by repeat (first | (with_reducible first | exact HB.out | apply below_alloc | apply pw_below_drewN | apply below_drew1) | exact HB.out)))); have n1_ := Aside0.mk (below_step (by repeat (first | (with_reducible first | exact HB.out | apply below_alloc | apply pw_below_drewN | apply below_drew1) | exact HB.out)) hb); clear HB; have HO5 := n0_; have HB := n1_; clear n0_ n1_; (try clear hb); (try clear hb2); (try clear hk); (try clear hi); (try clear ho0); obtain ⟨Ao7, co7, eo7⟩ := Kd.R_slice HO5.out; subst eo7) | ((with_reducible refine gate_callee (f := 68) rfl ?_); refine goesL_ (some 11) rfl rfl Tryz.func68 (by kernel_rfl) rfl #[.slice Ao7 t2.length co7, .bool t3] rfl (by (try simp only [List.map_toArray, List.map_cons, List.map_nil]); first | done | rfl | (simp only [List.length_drop, List.length_take]; rfl)) ?_; (with_reducible refine (narcissusref07_told.calls (fun k_ => some k_ = (.slice Ao7 t2.length co7 : Value).ownBlock) (.slice Ao7 t2.length co7) t2 t3 t6 t9 w _ ?side1 ?side2 A5.out).mono ?_); (case side1 => repeat (first | (with_reducible first | exact HB.out | apply below_alloc | apply pw_below_drewN | apply below_drew1) | exact HB.out)); (case side2 => exact Kd.R_tight rfl HO5.out); rintro e w8 ⟨v7, rfl, ho0, hb, hkp⟩; refine ⟨_, rfl, ?_⟩; have n0_ := Aside0.mk (Kd.R_mono (ok' := fun k_ => True) ho0 (fun k_ hk_ => trivial)); have n1_ := Aside0.mk (hb); clear HB; clear HO5; have HO8 := n0_; have HB := n1_; clear n0_ n1_; (try clear hb); (try clear hkp); (try clear ho0)))
  go_ret2
  exact ⟨_, by first | rfl | (simp [errW_none, errW_some] <;> rfl) | (simp [*, errW_none, errW_some] <;> rfl), by (with_reducible repeat (first | apply Kd.R_alloc | apply Kd.R_drewN | apply Kd.R_drew)); exact HO8.out, by repeat (first | (with_reducible first | exact HB.out | apply below_alloc | apply pw_below_drewN | apply below_drew1) | exact HB.out)⟩
 ·replace c3 := Bool.eq_false_iff.mpr c3
  subst c3
  have H1 : (some (([] : List (S72)), 3)) = some (r1, r2) := by rw [if_neg (show ¬ (false = true) by decide)] at H; exact H
  clear H
  have H := H1
  clear H1
  simp only [Option.some.injEq, Prod.mk.injEq] at H
  obtain ⟨rfl, rfl⟩ := H
  go_enter Tryz.func51, Tryz.ntmps51
  go_wp2_with (first | ((with_reducible refine gate_callee (f := 63) rfl ?_); refine goesL_ (some 5) rfl rfl Tryz.func63 (by kernel_rfl) rfl #[.slice A0 l0.length c0] rfl (by (try simp only [List.map_toArray, List.map_cons, List.map_nil]); first | done | rfl | (simp only [List.length_drop, List.length_take]; rfl)) ?_; (with_reducible refine (narcissusref04_Fits.calls k _ _ l0 false _ ?side1 ?side2 A2.out).mono ?_); (case side1 => repeat (first | exact HR0.out | (with_reducible refine Kd.C_alloc ?_ _) | (with_reducible refine Kd.C_drewN ?_ _) | (with_reducible refine Kd.C_drew ?_))); (case side2 => exact HC0.out); rintro e w' ⟨rfl, ⟨nd, rfl⟩⟩; refine ⟨_, rfl, ?_⟩))
  go_ret2
  exact ⟨_, by first | rfl | (simp [errW_none, errW_some] <;> rfl) | (simp [*, errW_none, errW_some] <;> rfl), by first | exact Kd.R_nil _ _ _ _ _ | exact Kd.N_nil _ _ _ _ _ | exact Kd.V_nil _ _ _ _ _ | exact Kd.Q_nil _ _ _ _ _ | exact Kd.S_nil _ _ _ _ _, by repeat (first | (with_reducible first | exact HB.out | apply below_alloc | apply pw_below_drewN | apply below_drew1) | exact HB.out)⟩
end Go.Proofs.YtocoamgbpoommaaGreatDoor.C
end
section
namespace Go.Proofs.YtocoamgbpoommaaGreatDoor.Plain
open Go.Proofs.YtocoamgbpoommaaGreatDoor.C
open Go.RowKit Go.Proofs.YtocoamgbpoommaaGreatDoorW.PrintWords Go.Proofs.YtocoamgbpoommaaGreatDoorW.PrintLast Go.Proofs.YtocoamgbpoommaaGreatDoorW.PrintMore
set_option linter.unusedVariables false
set_option linter.unusedSimpArgs false
theorem vi_knowHead : VI knowHead := fun j hj => by
  have h := vi_of_B knowHead knowHead 16 0 (by decide +kernel) j hj
  rw [Nat.zero_add] at h
  exact h
def iPut : List Ins := [⟨2, 0, 1, 0, ⟨#[]⟩⟩]
def iClear : List Ins := [⟨0, 1, 0, 0, ⟨#[48]⟩⟩]
theorem okp_put : OKP iPut := okp_iff.2 ⟨by decide, by decide, fun j hj => by
  have h := vi_of_B iPut iPut 1 0 (by decide +kernel) j hj
  rw [Nat.zero_add] at h
  exact h⟩
theorem okp_clear : OKP iClear := okp_iff.2 ⟨by decide, by decide, fun j hj => by
  have h := vi_of_B iClear iClear 1 0 (by decide +kernel) j hj
  rw [Nat.zero_add] at h
  exact h⟩
theorem put_code : bs (codeL iPut) = ⟨#[49, 49, 49, 48, 49, 48, 48, 49, 48, 49, 49, 48, 48, 48, 48]⟩ := by decide +kernel
theorem clear_code : bs (codeL iClear) = ⟨#[49, 49, 48, 49, 49, 48, 48, 48, 48]⟩ := by decide +kernel
theorem clear_tells (k : Nat) (hk : 10 ≤ k) : know_Clear.f k 2 6 = some [⟨0, 2, 0, 0, ⟨#[48]⟩⟩, ⟨0, 3, 0, 0, ⟨#[48]⟩⟩, ⟨0, 4, 0, 0, ⟨#[48]⟩⟩, ⟨0, 5, 0, 0, ⟨#[48]⟩⟩, ⟨0, 6, 0, 0, ⟨#[48]⟩⟩] := by
  obtain ⟨k, rfl⟩ : ∃ m, k = m + 6 := ⟨k - 6, by omega⟩
  unfold know_Clear.f
  simp [know_Clear.l0, wrap64]
theorem knowBefore_tells (k : Nat) (hk : 4010 ≤ k) : know_before.f k = some knowHead := by
  have h1 := code_yes hk okp_put
  have h2 := code_yes hk okp_clear
  rw [if_neg (by decide +kernel), put_code] at h1
  rw [if_neg (by decide +kernel), clear_code] at h2
  unfold know_before.f
  rw [show ([⟨2, 0, 1, 0, (⟨#[]⟩ : ByteArray)⟩] : List Ins) = iPut from rfl, h1, Option.bind_some, show ([⟨0, 1, 0, 0, (⟨#[48]⟩ : ByteArray)⟩] : List Ins) = iClear from rfl, h2, clear_tells k (by omega)]
  clear h1 h2 hk k
  show (_ : Option (List Ins)) = some knowHead
  kernel_rfl
theorem join_tells (q : List Ins) (hq : q.length ≤ 1000000) (k : Nat) (hk : 4020 ≤ k) : ∃ v, know_join.f k [knowHead, q] = some (knowHead ++ q, v) ∧ (v = true ↔ OKP (knowHead ++ q)) := by
  obtain ⟨k, rfl⟩ : ∃ m, k = m + 3 := ⟨k - 3, by omega⟩
  obtain ⟨v, e, hv⟩ := validp_tells (knowHead ++ q) k (by omega)
  refine ⟨v, ?_, hv⟩
  have hl : knowHead.length = 16 := rfl
  unfold know_join.f
  show know_join.l0 (k + 2 + 1) [] [knowHead, q] 2 0 = _
  rw [know_join.l0, if_pos (by decide), if_pos (by decide), if_pos (by simp), show rd_L3 [knowHead, q] 0 = knowHead from rfl, if_pos (by rw [hl]; simp), show wrap64 (0 + 1) = 1 from by decide +kernel, show k + 2 = k + 1 + 1 from rfl,
    know_join.l0, if_pos (by decide), if_pos (by decide), if_pos (by simp), show rd_L3 [knowHead, q] 1 = q from rfl, if_pos (by rw [List.nil_append, hl]; omega), show wrap64 (1 + 1) = 2 from by decide +kernel, know_join.l0, if_neg (by decide), List.nil_append, e]
  rfl
def madeK (q : List Ins) : List Ins := specHead (bs (codeL (knowHead ++ q))) ++ (knowHead ++ q)
def FineK (q : List Ins) : Prop := (OKP (knowHead ++ q) ∧ (codeL (knowHead ++ q)).length ≤ 2000000) ∧ OKP (madeK q) ∧ (codeL (madeK q)).length ≤ 2000000
theorem validT_code {p : List Ins} (h : OKP p) (hz : (codeL p).length ≤ 2000000) : ValidT (bs (codeL p)) := ⟨by rw [bs_size]; exact hz, by rw [bl_bs]; exact isT_codeL (okp_nice h)⟩
theorem know_yes {q : List Ins} (hq : OKP q) (hf : FineK q) (k : Nat) (hk : 4030 ≤ k) : know_Know.f k q = some (madeK q, 0) := by
  obtain ⟨v, e, hv⟩ := join_tells q (by have := hq.1; omega) k (by omega)
  obtain ⟨⟨h1, h2⟩, h3, h4⟩ := hf
  unfold know_Know.f
  rw [validp_yes (by omega) hq, Option.bind_some, if_pos rfl, knowBefore_tells k (by omega), Option.bind_some, e, Option.bind_some, if_pos (hv.2 h1), code_yes (by omega) h1, if_neg (by omega), Option.bind_some, if_pos rfl, (spec_tells h1 (validT_code h1 h2) k (by omega)).1 h3, Option.bind_some, if_pos rfl,
    show specHead (bs (codeL (knowHead ++ q))) ++ (knowHead ++ q) = madeK q from rfl, code_yes (by omega) h3, if_neg (by omega), Option.bind_some, if_pos rfl]
theorem know_large {q : List Ins} (hq : OKP q) (hf : ¬ FineK q) (k : Nat) (hk : 4030 ≤ k) : know_Know.f k q = some ([], 3) := by
  obtain ⟨v, e, hv⟩ := join_tells q (by have := hq.1; omega) k (by omega)
  unfold know_Know.f
  rw [validp_yes (by omega) hq, Option.bind_some, if_pos rfl, knowBefore_tells k (by omega), Option.bind_some, e, Option.bind_some]
  by_cases h1 : OKP (knowHead ++ q)
  · rw [if_pos (hv.2 h1), code_yes (by omega) h1]
    by_cases h2 : 2000000 < (codeL (knowHead ++ q)).length
    · rw [if_pos h2, Option.bind_some, if_neg (by decide)]
    · rw [if_neg h2, Option.bind_some, if_pos rfl]
      have hs := spec_tells h1 (validT_code h1 (by omega)) k (by omega)
      by_cases h3 : OKP (madeK q)
      · rw [hs.1 h3, Option.bind_some, if_pos rfl, show specHead (bs (codeL (knowHead ++ q))) ++ (knowHead ++ q) = madeK q from rfl, code_yes (by omega) h3]
        by_cases h4 : 2000000 < (codeL (madeK q)).length
        · rw [if_pos h4, Option.bind_some, if_neg (by decide)]
        · exact absurd ⟨⟨h1, by omega⟩, h3, by omega⟩ hf
      · rw [hs.2 h3, Option.bind_some, if_neg (by decide)]
  · have : v = false := by
      cases v with
      | true => exact absurd (hv.1 rfl) h1
      | false => rfl
    rw [this, if_neg (by simp)]
theorem refBehind_tells (q : List Ins) (hq : q.length ≤ 1000000) (k : Nat) (hk : 10 ≤ k) : narcissusref07_Behind.f k q = some (knowHead ++ q) := by
  obtain ⟨k, rfl⟩ : ∃ m, k = m + 6 := ⟨k - 6, by omega⟩
  unfold narcissusref07_Behind.f
  simp only [narcissusref07_head.f, narcissusref07_tail.f, narcissusref07_set.f, narcissusref07_cons.f, Option.bind_some]
  simp [narcissusref07_Behind.l0, wrap64, narcissusref07_set.f, knowHead]
  omega
theorem fits4_tells {q : List Ins} (hv : VI q) (k : Nat) (hk : 4010 ≤ k) : ∃ v, narcissusref04_Fits.f k q = some v ∧ (v = true ↔ OKP q) := by
  unfold narcissusref04_Fits.f
  by_cases h4 : q.length ≤ 4000
  · rw [if_pos (by omega), refTrees_tells h4 (vi_fits hv) k (by omega), Option.bind_some]
    refine ⟨_, rfl, ?_⟩
    rw [okp_iff]
    simp only [decide_eq_true_eq]
    exact ⟨fun h => ⟨h4, by omega, hv⟩, fun h => by have := h.2.1; omega⟩
  · rw [if_neg (by omega)]
    exact ⟨false, rfl, fun h => (by cases h), fun h => absurd h.1 h4⟩
theorem refMade_tells {q : List Ins} (hv : VI q) (hq : q.length ≤ 1000000) (k : Nat) (hk : 8110 ≤ k) :
    (OKP q ∧ FineK q → narcissusref07_Made.f k q = some (madeK q, 0)) ∧ (¬ (OKP q ∧ FineK q) → narcissusref07_Made.f k q = some ([], 3)) := by
  obtain ⟨v, e, hf⟩ := fits4_tells hv k (by omega)
  have hb := vi_append vi_knowHead hv
  unfold narcissusref07_Made.f narcissusref07_Know.f
  rw [e, Option.bind_some, refBehind_tells q hq k (by omega), Option.bind_some]
  by_cases h0 : OKP q
  · rw [if_pos (hf.2 h0)]
    by_cases h1 : OKP (knowHead ++ q)
    · rw [refCoded_yes h1 k (by omega), Option.bind_some]
      by_cases h2 : (codeL (knowHead ++ q)).length ≤ 2000000
      · rw [if_pos (by simpa using h2), refSpec_tells _ _ (by have := h1.1; omega), Option.bind_some, show specHead (bs (codeL (knowHead ++ q))) ++ (knowHead ++ q) = madeK q from rfl]
        by_cases h3 : OKP (madeK q)
        · rw [refCoded_yes h3 k (by omega), Option.bind_some]
          by_cases h4 : (codeL (madeK q)).length ≤ 2000000
          · rw [if_pos (by simpa using h4)]
            exact ⟨fun _ => rfl, fun h => absurd ⟨h0, ⟨h1, h2⟩, h3, h4⟩ h⟩
          · rw [if_neg (by simpa using h4)]
            exact ⟨fun h => absurd h.2.2.2 h4, fun _ => rfl⟩
        · rw [refCoded_no (show VI (madeK q) from vi_append (vi_specHead (validT_code h1 h2)) hb) h3 k (by omega), Option.bind_some, if_neg (by decide)]
          exact ⟨fun h => absurd h.2.2.1 h3, fun _ => rfl⟩
      · rw [if_neg (by simpa using h2)]
        exact ⟨fun h => absurd h.2.1.2 h2, fun _ => rfl⟩
    · rw [refCoded_no hb h1 k (by omega), Option.bind_some, if_neg (by decide)]
      exact ⟨fun h => absurd h.2.1.1 h1, fun _ => rfl⟩
  · have : v = false := by
      cases v with
      | true => exact absurd (hf.1 rfl) h0
      | false => rfl
    rw [this, if_neg (by decide)]
    exact ⟨fun h => absurd h.1 h0, fun _ => rfl⟩
end Go.Proofs.YtocoamgbpoommaaGreatDoor.Plain
end
