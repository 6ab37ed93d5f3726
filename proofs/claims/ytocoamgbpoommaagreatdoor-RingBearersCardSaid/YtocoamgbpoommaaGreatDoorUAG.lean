/- Texts of this claim, together: what the functions return, and what they say in plain words. -/
import Derived.Test.YtocoamgbpoommaaGreatDoorUB
import Derived.Test.YtocoamgbpoommaaGreatDoorUZ
import Derived.Test.YtocoamgbpoommaaGreatDoorUW
import Derived.Test.YtocoamgbpoommaaGreatDoorUAE
import Derived.Test.YtocoamgbpoommaaGreatDoorUAF
import Derived.Test.YtocoamgbpoommaaGreatDoorUY
import Derived.Test.YtocoamgbpoommaaGreatDoorCards
import Derived.Test.YtocoamgbpoommaaGreatDoorTie
import Derived.Test.YtocoamgbpoommaaGreatDoorUC
import Derived.WalkKit
import Derived.ProofKit
import Derived.OpenShut
import Derived.ShutString
import Derived.ChangeOld
import Derived.Below
import Derived.SizedLaws
import Derived.Deep.DeepHandedRow
import Derived.Lib.LaidTab
import Derived.Stop.LaidErr
import Derived.Shelf.Vars
import Derived.Lay
section
namespace Go.Proofs.YtocoamgbpoommaaGreatDoor.C
open Go.RowKit Go.Proofs.YtocoamgbpoommaaGreatDoorW.PrintWords Go.Proofs.YtocoamgbpoommaaGreatDoorW.PrintLast Go.Proofs.YtocoamgbpoommaaGreatDoorW.PrintMore
attribute [local go_sem] max2_int min2_int max_two min_two max_three min_three max_four min_four
set_option linter.unusedVariables false
set_option linter.unusedSimpArgs false
def narcissusref08_Bearer.f (k : Nat) (l0 : List (S72)) : Option ((List (S72)) × Int) := (narcissusref02_Regs.f k l0).bind fun t1 => (if t1 > 31 then (some (([] : List (S72)), 8)) else ((narcissusref08_head.f t1 0).bind fun bt2 => ((narcissusref08_tail.f 0 0).bind fun bt7 => ((some (([(⟨bt2.1, bt2.2.1, bt2.2.2.1, bt2.2.2.2.1, bt2.2.2.2.2⟩ : S72), (⟨bt7.1, bt7.2.1, bt7.2.2.1, bt7.2.2.2.1, bt7.2.2.2.2⟩ : S72)] : List (S72)) : List (S72))).bind fun y12 => (if y12.length + l0.length < 2932031007402 then ((some (y12 ++ l0 : List (S72))).bind fun y15 => ((narcissusref08_cons.f 0 t1 0).bind fun bt18 => (if y15.length < 2932031007402 then ((narcissusref07_Made.f k (y15 ++ [(⟨bt18.1, bt18.2.1, bt18.2.2.1, bt18.2.2.2.1, bt18.2.2.2.2⟩ : S72)])).bind fun bt26 => (some (bt26.1, bt26.2))) else (none)))) else (none))))))
set_option maxHeartbeats 8000000 in
set_option maxRecDepth 100000 in
theorem narcissusref08_Bearer.calls (k : Nat) (A0 : Option Addr) (c0 : Nat) (l0 : List (S72)) (r1 : List (S72)) (r2 : Int) (w : World) (hr0 : Kd.C k72 w A0 l0.length l0) (hc0 : l0.length ≤ c0) (h : narcissusref08_Bearer.f k l0 = some (r1, r2)) :
  Calls Tryz.prog 32 #[.slice A0 l0.length c0] w fun e w' => ∃ v0_ : Value, e = .returned (.tuple #[v0_, .int .i64 r2]) ∧ Kd.R k72 72 w' w.heap.size (fun _ => True) v0_ r1 ∧ Below w.heap.size w w' := by
 have HR0 := Aside0.mk hr0
 have HC0 := Aside0.mk hc0
 clear hr0 hc0
 have HB := Aside0.mk (Below.refl w.heap.size w)
 have H : ((narcissusref02_Regs.f k l0).bind fun t1 => (if t1 > 31 then (some (([] : List (S72)), 8)) else ((narcissusref08_head.f t1 0).bind fun bt2 => ((narcissusref08_tail.f 0 0).bind fun bt7 => ((some (([(⟨bt2.1, bt2.2.1, bt2.2.2.1, bt2.2.2.2.1, bt2.2.2.2.2⟩ : S72), (⟨bt7.1, bt7.2.1, bt7.2.2.1, bt7.2.2.2.1, bt7.2.2.2.2⟩ : S72)] : List (S72)) : List (S72))).bind fun y12 => (if y12.length + l0.length < 2932031007402 then ((some (y12 ++ l0 : List (S72))).bind fun y15 => ((narcissusref08_cons.f 0 t1 0).bind fun bt18 => (if y15.length < 2932031007402 then ((narcissusref07_Made.f k (y15 ++ [(⟨bt18.1, bt18.2.1, bt18.2.2.1, bt18.2.2.2.1, bt18.2.2.2.2⟩ : S72)])).bind fun bt26 => (some (bt26.1, bt26.2))) else (none)))) else (none))))))) = some (r1, r2) := h
 clear h
 replace H := Option.bind_eq_some_iff.mp H
 obtain ⟨t1, A20, H⟩ := H
 replace H : (if t1 > 31 then (some (([] : List (S72)), 8)) else ((narcissusref08_head.f t1 0).bind fun bt2 => ((narcissusref08_tail.f 0 0).bind fun bt7 => ((some (([(⟨bt2.1, bt2.2.1, bt2.2.2.1, bt2.2.2.2.1, bt2.2.2.2.2⟩ : S72), (⟨bt7.1, bt7.2.1, bt7.2.2.1, bt7.2.2.2.1, bt7.2.2.2.2⟩ : S72)] : List (S72)) : List (S72))).bind fun y12 => (if y12.length + l0.length < 2932031007402 then ((some (y12 ++ l0 : List (S72))).bind fun y15 => ((narcissusref08_cons.f 0 t1 0).bind fun bt18 => (if y15.length < 2932031007402 then ((narcissusref07_Made.f k (y15 ++ [(⟨bt18.1, bt18.2.1, bt18.2.2.1, bt18.2.2.2.1, bt18.2.2.2.2⟩ : S72)])).bind fun bt26 => (some (bt26.1, bt26.2))) else (none)))) else (none)))))) = some (r1, r2) := H
 have A2 := Aside0.mk A20
 clear A20
 by_cases c3 : t1 > 31
 ·rw [if_pos c3] at H
  have c3b0 : decide (31 < t1) = true := decide_eq_true c3
  clear c3
  simp only [Option.some.injEq, Prod.mk.injEq] at H
  obtain ⟨rfl, rfl⟩ := H
  go_enter Tryz.func32, Tryz.ntmps32
  go_wp2_with (first | ((with_reducible refine gate_callee (f := 35) rfl ?_); refine goesL_ (some 7) rfl rfl Tryz.func35 (by kernel_rfl) rfl #[.slice A0 l0.length c0] rfl (by (try simp only [List.map_toArray, List.map_cons, List.map_nil]); first | done | rfl | (simp only [List.length_drop, List.length_take]; rfl)) ?_; (with_reducible refine (narcissusref02_Regs.calls k _ _ l0 t1 _ ?side1 ?side2 A2.out).mono ?_); (case side1 => repeat (first | exact HR0.out | (with_reducible refine Kd.C_alloc ?_ _) | (with_reducible refine Kd.C_drewN ?_ _) | (with_reducible refine Kd.C_drew ?_))); (case side2 => exact HC0.out); rintro e w4 ⟨rfl, hb⟩; refine ⟨_, rfl, ?_⟩; have n0_ := Aside0.mk (below_step (by repeat (first | (with_reducible first | exact HB.out | apply below_alloc | apply pw_below_drewN | apply below_drew1) | exact HB.out)) hb); clear HB; have HB := n0_; clear n0_; (try clear hb); (try clear hb2); (try clear hk); (try clear hi)))
  go_ret2
  exact ⟨_, by first | rfl | (simp [errW_none, errW_some] <;> rfl) | (simp [*, errW_none, errW_some] <;> rfl), by first | exact Kd.R_nil _ _ _ _ _ | exact Kd.N_nil _ _ _ _ _ | exact Kd.V_nil _ _ _ _ _ | exact Kd.Q_nil _ _ _ _ _ | exact Kd.S_nil _ _ _ _ _, by repeat (first | (with_reducible first | exact HB.out | apply below_alloc | apply pw_below_drewN | apply below_drew1) | exact HB.out)⟩
 ·rw [if_neg c3] at H
  have c3b0 : decide (31 < t1) = false := decide_eq_false c3
  clear c3
  replace H := Option.bind_eq_some_iff.mp H
  obtain ⟨⟨t2, t3, t4, t5, t6⟩, A50, H⟩ := H
  replace H : ((narcissusref08_tail.f 0 0).bind fun bt7 => ((some (([(⟨t2, t3, t4, t5, t6⟩ : S72), (⟨bt7.1, bt7.2.1, bt7.2.2.1, bt7.2.2.2.1, bt7.2.2.2.2⟩ : S72)] : List (S72)) : List (S72))).bind fun y12 => (if y12.length + l0.length < 2932031007402 then ((some (y12 ++ l0 : List (S72))).bind fun y15 => ((narcissusref08_cons.f 0 t1 0).bind fun bt18 => (if y15.length < 2932031007402 then ((narcissusref07_Made.f k (y15 ++ [(⟨bt18.1, bt18.2.1, bt18.2.2.1, bt18.2.2.2.1, bt18.2.2.2.2⟩ : S72)])).bind fun bt26 => (some (bt26.1, bt26.2))) else (none)))) else (none)))) = some (r1, r2) := H
  have A5 := Aside0.mk A50
  clear A50
  replace H := Option.bind_eq_some_iff.mp H
  obtain ⟨⟨t7, t8, t9, t10, t11⟩, A60, H⟩ := H
  replace H : ((some (([(⟨t2, t3, t4, t5, t6⟩ : S72), (⟨t7, t8, t9, t10, t11⟩ : S72)] : List (S72)) : List (S72))).bind fun y12 => (if y12.length + l0.length < 2932031007402 then ((some (y12 ++ l0 : List (S72))).bind fun y15 => ((narcissusref08_cons.f 0 t1 0).bind fun bt18 => (if y15.length < 2932031007402 then ((narcissusref07_Made.f k (y15 ++ [(⟨bt18.1, bt18.2.1, bt18.2.2.1, bt18.2.2.2.1, bt18.2.2.2.2⟩ : S72)])).bind fun bt26 => (some (bt26.1, bt26.2))) else (none)))) else (none))) = some (r1, r2) := H
  have A6 := Aside0.mk A60
  clear A60
  obtain ⟨y12, hy12⟩ : ∃ y_ : List (S72), y_ = (([(⟨t2, t3, t4, t5, t6⟩ : S72), (⟨t7, t8, t9, t10, t11⟩ : S72)] : List (S72))) := ⟨_, rfl⟩
  replace H : (if y12.length + l0.length < 2932031007402 then ((some (y12 ++ l0 : List (S72))).bind fun y15 => ((narcissusref08_cons.f 0 t1 0).bind fun bt18 => (if y15.length < 2932031007402 then ((narcissusref07_Made.f k (y15 ++ [(⟨bt18.1, bt18.2.1, bt18.2.2.1, bt18.2.2.2.1, bt18.2.2.2.2⟩ : S72)])).bind fun bt26 => (some (bt26.1, bt26.2))) else (none)))) else (none)) = some (r1, r2) := by first | (rw [hy12]; with_reducible exact H) | (have H2_ := (Option.bind_some _ _).symm.trans H; rw [hy12]; with_reducible exact H2_) | (have H2_ := (Option.bind_some _ _).symm.trans H; with_reducible exact H2_) | with_reducible exact H | (rw [hy12]; exact H) | exact H
  have Ny12 := Aside0.mk hy12
  clear hy12
  by_cases c7 : y12.length + l0.length < 2932031007402
  ·rw [if_pos c7] at H
   have LMc7 := Aside0.mk c7
   clear c7
   obtain ⟨y15, hy15⟩ : ∃ y_ : List (S72), y_ = (y12 ++ l0) := ⟨_, rfl⟩
   replace H : ((narcissusref08_cons.f 0 t1 0).bind fun bt18 => (if y15.length < 2932031007402 then ((narcissusref07_Made.f k (y15 ++ [(⟨bt18.1, bt18.2.1, bt18.2.2.1, bt18.2.2.2.1, bt18.2.2.2.2⟩ : S72)])).bind fun bt26 => (some (bt26.1, bt26.2))) else (none))) = some (r1, r2) := by first | (rw [hy15]; with_reducible exact H) | (have H2_ := (Option.bind_some _ _).symm.trans H; rw [hy15]; with_reducible exact H2_) | (have H2_ := (Option.bind_some _ _).symm.trans H; with_reducible exact H2_) | with_reducible exact H | (rw [hy15]; exact H) | exact H
   have Ny15 := Aside0.mk hy15
   clear hy15
   replace H := Option.bind_eq_some_iff.mp H
   obtain ⟨⟨t18, t19, t20, t21, t22⟩, A80, H⟩ := H
   replace H : (if y15.length < 2932031007402 then ((narcissusref07_Made.f k (y15 ++ [(⟨t18, t19, t20, t21, t22⟩ : S72)])).bind fun bt26 => (some (bt26.1, bt26.2))) else (none)) = some (r1, r2) := H
   have A8 := Aside0.mk A80
   clear A80
   by_cases c9 : y15.length < 2932031007402
   ·rw [if_pos c9] at H
    have LMc9 := Aside0.mk c9
    clear c9
    obtain ⟨y23, hy23⟩ : ∃ y_ : List (S72), y_ = (y15 ++ [(⟨t18, t19, t20, t21, t22⟩ : S72)]) := ⟨_, rfl⟩
    replace H : ((narcissusref07_Made.f k y23).bind fun bt26 => (some (bt26.1, bt26.2))) = some (r1, r2) := by first | (rw [hy23]; with_reducible exact H) | (have H2_ := (Option.bind_some _ _).symm.trans H; rw [hy23]; with_reducible exact H2_) | (have H2_ := (Option.bind_some _ _).symm.trans H; with_reducible exact H2_) | with_reducible exact H | (rw [hy23]; exact H) | exact H
    have Ny23 := Aside0.mk hy23
    clear hy23
    replace H := Option.bind_eq_some_iff.mp H
    obtain ⟨⟨t26, t27⟩, A100, H⟩ := H
    replace H : (some (t26, t27)) = some (r1, r2) := H
    have A10 := Aside0.mk A100
    clear A100
    simp only [Option.some.injEq, Prod.mk.injEq] at H
    obtain ⟨rfl, rfl⟩ := H
    go_enter Tryz.func32, Tryz.ntmps32
    go_wp2_with (first | ((with_reducible refine gate_callee (f := 35) rfl ?_); refine goesL_ (some 7) rfl rfl Tryz.func35 (by kernel_rfl) rfl #[.slice A0 l0.length c0] rfl (by (try simp only [List.map_toArray, List.map_cons, List.map_nil]); first | done | rfl | (simp only [List.length_drop, List.length_take]; rfl)) ?_; (with_reducible refine (narcissusref02_Regs.calls k _ _ l0 t1 _ ?side1 ?side2 A2.out).mono ?_); (case side1 => repeat (first | exact HR0.out | (with_reducible refine Kd.C_alloc ?_ _) | (with_reducible refine Kd.C_drewN ?_ _) | (with_reducible refine Kd.C_drew ?_))); (case side2 => exact HC0.out); rintro e w11 ⟨rfl, hb⟩; refine ⟨_, rfl, ?_⟩; have n0_ := Aside0.mk (below_step (by repeat (first | (with_reducible first | exact HB.out | apply below_alloc | apply pw_below_drewN | apply below_drew1) | exact HB.out)) hb); clear HB; have HB := n0_; clear n0_; (try clear hb); (try clear hb2); (try clear hk); (try clear hi)) | ((with_reducible refine gate_callee (f := 44) rfl ?_); refine goesL_ (some 11) rfl rfl Tryz.func44 (by kernel_rfl) rfl #[.int .i64 t1, .int .i64 0] rfl (by (try simp only [List.map_toArray, List.map_cons, List.map_nil]); first | done | rfl | (simp only [List.length_drop, List.length_take]; rfl)) ?_; (with_reducible refine (narcissusref08_head.calls t1 0 t2 t3 t4 t5 t6 _ A5.out).mono ?_); rintro e w12 ⟨rfl, hb⟩; refine ⟨_, rfl, ?_⟩; have n0_ := Aside0.mk (below_step (by repeat (first | (with_reducible first | exact HB.out | apply below_alloc | apply pw_below_drewN | apply below_drew1) | exact HB.out)) hb); clear HB; have HB := n0_; clear n0_; (try clear hb); (try clear hb2); (try clear hk); (try clear hi)) | ((with_reducible refine gate_callee (f := 45) rfl ?_); refine goesL_ (some 12) rfl rfl Tryz.func45 (by kernel_rfl) rfl #[.int .i64 0, .int .i64 0] rfl (by (try simp only [List.map_toArray, List.map_cons, List.map_nil]); first | done | rfl | (simp only [List.length_drop, List.length_take]; rfl)) ?_; (with_reducible refine (narcissusref08_tail.calls 0 0 t7 t8 t9 t10 t11 _ A6.out).mono ?_); rintro e w13 ⟨rfl, hb⟩; refine ⟨_, rfl, ?_⟩; have n0_ := Aside0.mk (below_step (by repeat (first | (with_reducible first | exact HB.out | apply below_alloc | apply pw_below_drewN | apply below_drew1) | exact HB.out)) hb); clear HB; have HB := n0_; clear n0_; (try clear hb); (try clear hb2); (try clear hk); (try clear hi)) | ((with_reducible refine gate_dst (N := 13) rfl ?_); refine Kd.R_lit k72 _ 72 ?hg (N := 13) ?hd (xs := ([(⟨t2, t3, t4, t5, t6⟩ : S72), (⟨t7, t8, t9, t10, t11⟩ : S72)] : List (S72))) (inner := [.int .i64 t2, .int .i64 t3, .int .i64 t4, .int .i64 t5, .string t6, .int .i64 t7, .int .i64 t8, .int .i64 t9, .int .i64 t10, .string t11]) (ok := fun _ => True) (okp := fun _ => True) ?hr ?hp (fun _ hk => hk) trivial (Below.refl _ _) (Nat.le_refl _) (by simp) ?_; (case hd => rfl); (case hg => rfl); (case hr => first | (go_simp; done) | (go_simp; rfl)); (case hp => exact (Reps.c5 (show Kd.M k72 _ _ _ (⟨t2, t3, t4, t5, t6⟩ : S72) [.int .i64 t2, .int .i64 t3, .int .i64 t4, .int .i64 t5, .string t6] from (k72_mkM _ _ _ (⟨t2, t3, t4, t5, t6⟩ : S72) )) (Reps.c5 (show Kd.M k72 _ _ _ (⟨t7, t8, t9, t10, t11⟩ : S72) [.int .i64 t7, .int .i64 t8, .int .i64 t9, .int .i64 t10, .string t11] from (k72_mkM _ _ _ (⟨t7, t8, t9, t10, t11⟩ : S72) )) (Reps.none _ _)))); intro v13 w14 ho15 hb hg_ hnew_; clear hg_ hnew_; (first | rw [← Ny12.out] at ho15 | (simp only [Int.reduceToNat] at ho15; rw [← Ny12.out] at ho15)); have n0_ := Aside0.mk (Kd.R_lower ho15 (below_size (by repeat (first | (with_reducible first | exact HB.out | apply below_alloc | apply pw_below_drewN | apply below_drew1) | exact HB.out)))); have n1_ := Aside0.mk (below_step (by repeat (first | (with_reducible first | exact HB.out | apply below_alloc | apply pw_below_drewN | apply below_drew1) | exact HB.out)) hb); clear HB; have HO14 := n0_; have HB := n1_; clear n0_ n1_; clear hb ho15) | ((with_reducible refine gate_builtin (b := .append) (xs := #[.tmp 13, .tmp 14]) rfl ?_); at_builtin; refine Kd.R_append_rows k72 (w0 := w) w.heap.size rfl (.tmp 13) (.tmp 14) 47 72 (.agg #[(.int .i64 0), (.int .i64 0), (.int .i64 0), (.int .i64 0), (.string ⟨#[]⟩)]) 48 rfl Tryz.underlying47 info72 rfl (by decide) (by omega) v13 y12 l0 _ _ _ (fun _ => True) (fun _ => False) rfl rfl ?aO ?aR (fun _ _ h => h) (fun _ h => h.elim) ?aF ?aB ?aS ?aL ?_; (case aR => repeat (first | exact (Kd.C_below HR0.out HB.out) | (with_reducible refine Kd.C_alloc ?_ _) | (with_reducible refine Kd.C_drewN ?_ _) | (with_reducible refine Kd.C_drew ?_))); (case aB => exact (by repeat (first | (with_reducible first | exact HB.out | apply below_alloc | apply pw_below_drewN | apply below_drew1) | exact HB.out))); (case aF => exact (fun _ _ => trivial)); (case aO => exact (by (with_reducible repeat (first | apply Kd.R_alloc | apply Kd.R_drewN | apply Kd.R_drew)); exact HO14.out)); (case aS => exact (below_size (by repeat (first | (with_reducible first | exact HB.out | apply below_alloc | apply pw_below_drewN | apply below_drew1) | exact HB.out)))); (case aL => have := LMc7.out; first | omega | (simp only [lit_size, List.size_toArray, List.length_cons, List.length_nil]; omega)); intro v16 w16 ho hb hg hat; rw [← Ny15.out] at ho; have n0_ := Aside0.mk (hb); have n1_ := Aside0.mk (ho); clear HB; clear HO14; have HB := n0_; have HO17 := n1_; clear n0_ n1_; clear ho hb hg hat) | ((with_reducible refine gate_callee (f := 52) rfl ?_); refine goesL_ (some 18) rfl rfl Tryz.func52 (by kernel_rfl) rfl #[.int .i64 0, .int .i64 t1, .int .i64 0] rfl (by (try simp only [List.map_toArray, List.map_cons, List.map_nil]); first | done | rfl | (simp only [List.length_drop, List.length_take]; rfl)) ?_; (with_reducible refine (narcissusref08_cons.calls 0 t1 0 t18 t19 t20 t21 t22 _ A8.out).mono ?_); rintro e w17 ⟨rfl, hb⟩; refine ⟨_, rfl, ?_⟩; have n0_ := Aside0.mk (Kd.R_below (by (with_reducible repeat (first | apply Kd.R_alloc | apply Kd.R_drewN | apply Kd.R_drew)); exact HO17.out) hb); have n1_ := Aside0.mk (below_step (by repeat (first | (with_reducible first | exact HB.out | apply below_alloc | apply pw_below_drewN | apply below_drew1) | exact HB.out)) hb); clear HO17; clear HB; have HO17 := n0_; have HB := n1_; clear n0_ n1_; (try clear hb); (try clear hb2); (try clear hk); (try clear hi)) | ((with_reducible refine gate_builtin (b := .append) (xs := #[.tmp 16, .tmp 19]) rfl ?_); at_builtin; refine Kd.R_append k72 (w0 := w) w.heap.size rfl (.tmp 16) (.tmp 19) 47 72 (.agg #[(.int .i64 0), (.int .i64 0), (.int .i64 0), (.int .i64 0), (.string ⟨#[]⟩)]) 48 rfl Tryz.underlying47 info72 rfl (by decide) (by omega) v16 y15 (⟨t18, t19, t20, t21, t22⟩ : S72) [.int .i64 t18, .int .i64 t19, .int .i64 t20, .int .i64 t21, .string t22] (fun _ => True) (fun _ => False) rfl rfl ?aP (fun _ hk => hk.elim) ?aF ?aO ?aB ?aS ?aL ?_; (case aP => exact k72_mkM _ _ _ (⟨t18, t19, t20, t21, t22⟩ : S72)); (case aB => exact (by repeat (first | (with_reducible first | exact HB.out | apply below_alloc | apply pw_below_drewN | apply below_drew1) | exact HB.out))); (case aF => exact (fun _ _ => trivial)); (case aO => exact (by (with_reducible repeat (first | apply Kd.R_alloc | apply Kd.R_drewN | apply Kd.R_drew)); exact HO17.out)); (case aS => exact (below_size (by repeat (first | (with_reducible first | exact HB.out | apply below_alloc | apply pw_below_drewN | apply below_drew1) | exact HB.out)))); (case aL => have := LMc9.out; first | omega | (simp only [lit_size, List.size_toArray, List.length_cons, List.length_nil]; omega)); intro v24 w18 ho hb hg hat; rw [← Ny23.out] at ho; have n0_ := Aside0.mk (hb); have n1_ := Aside0.mk (ho); clear HB; clear HO17; have HB := n0_; have HO25 := n1_; clear n0_ n1_; clear ho hb hg hat; obtain ⟨Ao19, co19, eo19⟩ := Kd.R_slice HO25.out; subst eo19) | ((with_reducible refine gate_callee (f := 51) rfl ?_); refine goesL_ (some 21) rfl rfl Tryz.func51 (by kernel_rfl) rfl #[.slice Ao19 y23.length co19] rfl (by (try simp only [List.map_toArray, List.map_cons, List.map_nil]); first | done | rfl | (simp only [List.length_drop, List.length_take]; rfl)) ?_; (with_reducible refine (narcissusref07_Made.calls k _ _ y23 t26 t27 _ ?side1 ?side2 A10.out).mono ?_); (case side1 => repeat (first | exact (Kd.R_reads' HO25.out).2.2 | (with_reducible refine Kd.C_alloc ?_ _) | (with_reducible refine Kd.C_drewN ?_ _) | (with_reducible refine Kd.C_drew ?_))); (case side2 => exact (Kd.R_reads' HO25.out).2.1); rintro e w20 ⟨v28, rfl, ho0, hb⟩; refine ⟨_, rfl, ?_⟩; have n0_ := Aside0.mk (Kd.R_elder' (by (with_reducible repeat (first | apply Kd.R_alloc | apply Kd.R_drewN | apply Kd.R_drew)); exact HO25.out) (Kd.R_base ho0) hb); have n1_ := Aside0.mk (Kd.R_lower (Kd.R_new' ho0 (Kd.R_lt (by (with_reducible repeat (first | apply Kd.R_alloc | apply Kd.R_drewN | apply Kd.R_drew)); exact HO25.out))) (below_size (by repeat (first | (with_reducible first | exact HB.out | apply below_alloc | apply pw_below_drewN | apply below_drew1) | exact HB.out)))); have n2_ := Aside0.mk (below_step (by repeat (first | (with_reducible first | exact HB.out | apply below_alloc | apply pw_below_drewN | apply below_drew1) | exact HB.out)) hb); clear HO25; clear HB; have HO25 := n0_; have HO29 := n1_; have HB := n2_; clear n0_ n1_ n2_; (try clear hb); (try clear hb2); (try clear hk); (try clear hi); (try clear ho0)))
    go_ret2
    exact ⟨_, by first | rfl | (simp [errW_none, errW_some] <;> rfl) | (simp [*, errW_none, errW_some] <;> rfl), by (with_reducible repeat (first | apply Kd.R_alloc | apply Kd.R_drewN | apply Kd.R_drew)); exact Kd.R_mono HO29.out (fun _ hk => trivial), by repeat (first | (with_reducible first | exact HB.out | apply below_alloc | apply pw_below_drewN | apply below_drew1) | exact HB.out)⟩
   ·rw [if_neg c9] at H
    exact absurd H (by simp)
  ·rw [if_neg c7] at H
   exact absurd H (by simp)
end Go.Proofs.YtocoamgbpoommaaGreatDoor.C
end
section
namespace Go.Proofs.YtocoamgbpoommaaGreatDoor.Plain
open Go.Proofs.YtocoamgbpoommaaGreatDoor.C
open Go.RowKit Go.Proofs.YtocoamgbpoommaaGreatDoorW.PrintWords Go.Proofs.YtocoamgbpoommaaGreatDoorW.PrintLast Go.Proofs.YtocoamgbpoommaaGreatDoorW.PrintMore
set_option linter.unusedVariables false
set_option linter.unusedSimpArgs false
def bearQ (w : Nat) (p : List Ins) : List Ins := [⟨3, (w : Int), 0, 0, ⟨#[]⟩⟩, ⟨4, 0, 0, 0, ⟨#[]⟩⟩] ++ p ++ [⟨2, 0, (w : Int), 0, ⟨#[]⟩⟩]
theorem bearQ_length (w : Nat) (p : List Ins) : (bearQ w p).length = p.length + 3 := by unfold bearQ; simp
theorem vi_bearQ {w : Nat} {p : List Ins} (hw : w < 32) (h : VI p) : VI (bearQ w p) := by
  unfold bearQ
  have hr : Reg (w : Int) := ⟨by omega, by omega⟩
  have h0 : Reg 0 := ⟨by decide, by decide⟩
  refine vi_append (vi_append (fun j hj => ?_) h) (fun j hj => ?_)
  · match j, hj with
    | 0, _ => exact .inr (.inl ⟨.inr (.inl rfl), hr, h0, rfl, rfl⟩)
    | 1, _ => exact .inr (.inl ⟨.inr (.inr rfl), h0, h0, rfl, rfl⟩)
  · match j, hj with
    | 0, _ => exact .inr (.inr (.inl ⟨rfl, h0, hr, h0, rfl⟩))
theorem ringBearer_is {p : List Ins} (hp : OKP p) {w : Nat} (h31 : w ≤ 31) (k : Nat) (hw : code_Regs.f k p = some ((w : Int), 0)) : ring_Bearer.f k p = (code_Valid.f k (bearQ w p)).bind fun t12 => if t12 = true then (know_Know.f k (bearQ w p)).bind fun bt13 => some (bt13.1, bt13.2) else some ([], 3) := by
  have h4 := hp.1
  unfold ring_Bearer.f
  rw [hw, Option.bind_some, if_pos rfl, if_neg (by omega), Option.bind_some, if_pos (by simp; omega), Option.bind_some, if_pos (by simp; omega), Option.bind_some]
  rfl
theorem refBearer_is {p : List Ins} (hp : OKP p) {w : Nat} (h31 : w ≤ 31) (k : Nat) (hw : narcissusref02_Regs.f k p = some (w : Int)) : narcissusref08_Bearer.f k p = (narcissusref07_Made.f k (bearQ w p)).bind fun bt26 => some (bt26.1, bt26.2) := by
  have h4 := hp.1
  unfold narcissusref08_Bearer.f
  simp only [narcissusref08_head.f, narcissusref08_tail.f, narcissusref08_cons.f, Option.bind_some]
  rw [hw, Option.bind_some, if_neg (by omega), if_pos (by simp; omega), if_pos (by simp; omega)]
  rfl
theorem bearer_yes {p : List Ins} (hp : OKP p) {w : Nat} (h31 : w ≤ 31) (hf : OKP (bearQ w p) ∧ FineK (bearQ w p)) (k : Nat) (hk : 8120 ≤ k) (h1 : code_Regs.f k p = some ((w : Int), 0)) (h2 : narcissusref02_Regs.f k p = some (w : Int)) :
    ring_Bearer.f k p = some (madeK (bearQ w p), 0) ∧ narcissusref08_Bearer.f k p = some (madeK (bearQ w p), 0) := by
  have hv := vi_bearQ (w := w) (by omega) (okp_iff.1 hp).2.2
  have hl : (bearQ w p).length ≤ 1000000 := by rw [bearQ_length]; have := hp.1; omega
  refine ⟨?_, ?_⟩
  · rw [ringBearer_is hp h31 k h1, validp_yes (by omega) hf.1, Option.bind_some, if_pos rfl, know_yes hf.1 hf.2 k (by omega)]; rfl
  · rw [refBearer_is hp h31 k h2, (refMade_tells hv hl k (by omega)).1 hf]; rfl
theorem bearer_large {p : List Ins} (hp : OKP p) {w : Nat} (h31 : w ≤ 31) (hf : ¬ (OKP (bearQ w p) ∧ FineK (bearQ w p))) (k : Nat) (hk : 8120 ≤ k) (h1 : code_Regs.f k p = some ((w : Int), 0)) (h2 : narcissusref02_Regs.f k p = some (w : Int)) :
    ring_Bearer.f k p = some ([], 3) ∧ narcissusref08_Bearer.f k p = some ([], 3) := by
  have hv := vi_bearQ (w := w) (by omega) (okp_iff.1 hp).2.2
  have hl : (bearQ w p).length ≤ 1000000 := by rw [bearQ_length]; have := hp.1; omega
  refine ⟨?_, ?_⟩
  · rw [ringBearer_is hp h31 k h1]
    by_cases h0 : OKP (bearQ w p)
    · rw [validp_yes (by omega) h0, Option.bind_some, if_pos rfl, know_large h0 (fun h => hf ⟨h0, h⟩) k (by omega)]; rfl
    · rw [validp_no (by omega) h0, Option.bind_some, if_neg (by decide)]
  · rw [refBearer_is hp h31 k h2, (refMade_tells hv hl k (by omega)).2 hf]; rfl
theorem bearer_regs {p : List Ins} {w : Nat} (h31 : 31 < w) (k : Nat) (h1 : code_Regs.f k p = some ((w : Int), 0)) (h2 : narcissusref02_Regs.f k p = some (w : Int)) :
    ring_Bearer.f k p = some ([], 8) ∧ narcissusref08_Bearer.f k p = some ([], 8) := by
  refine ⟨?_, ?_⟩
  · unfold ring_Bearer.f; rw [h1, Option.bind_some, if_pos rfl, if_pos (by omega)]
  · unfold narcissusref08_Bearer.f; rw [h2, Option.bind_some, if_pos (by omega)]
theorem bearer_form {p : List Ins} (hp : ¬ OKP p) (k : Nat) (hk : 4010 ≤ k) : ring_Bearer.f k p = some ([], 1) := by
  unfold ring_Bearer.f code_Regs.f
  rw [validp_no hk hp, Option.bind_some, if_neg (by decide), Option.bind_some, if_neg (by decide)]
end Go.Proofs.YtocoamgbpoommaaGreatDoor.Plain
end
section
namespace Go.Proofs.YtocoamgbpoommaaGreatDoor.C
open Go.RowKit Go.Proofs.YtocoamgbpoommaaGreatDoorW.PrintWords Go.Proofs.YtocoamgbpoommaaGreatDoorW.PrintLast Go.Proofs.YtocoamgbpoommaaGreatDoorW.PrintMore
set_option linter.unusedVariables false
set_option linter.unusedSimpArgs false
theorem one_row {w : World} {A : Option Addr} {m c : Nat} {p : Prg} (hn : p.length = m) (h : Kd.C k72 w A m p) (hc : m ≤ c) :
    Kd.C (Kd.slice 72 k72) (w.alloc (.cells #[.slice A m c] 47 (0, 0))) (some ⟨w.heap.size, 0, none⟩) 1 [p] := by
  refine ⟨rfl, by decide, fun _ => ⟨_, rfl, fun j q hq => ?_⟩⟩
  obtain ⟨rfl, rfl⟩ : j = 0 ∧ p = q := by
    match j, hq with
    | 0, hq => exact ⟨rfl, Option.some.inj hq⟩
  refine ⟨[.slice A p.length c], rfl, ⟨A, c, rfl, by rw [hn]; exact hc, by rw [hn]; exact Kd.C_below h (below_alloc (Below.refl _ _) _)⟩, fun i u hu => ?_⟩
  match i, hu with
  | 0, hu =>
    obtain rfl : Value.slice A p.length c = u := Option.some.inj hu
    show (w.alloc _).cell? (Addr.add ⟨w.heap.size, 0, none⟩ 0) = _
    rw [add_plain, blk_cell (blk_new w _) 0, hn]
    rfl
theorem RowI.below {w w' : World} {base : Nat} {A : Option Addr} {n : Nat} (h : RowI w base A n) (hb : Below w.heap.size w w') : RowI w' base A n := by
  rcases h with h0 | ⟨h', cells', rfl, h1, h2, h3⟩
  · exact .inl h0
  · exact .inr ⟨h', _, rfl, h1, (hb.block _ (blk_lt h2)).trans h2, h3⟩
theorem Spo.one {w : World} {base : Nat} {A : Option Addr} {m c : Nat} {r : Prg} (hn : r.length = m) (h : RowI w base A m) (hb : base ≤ w.heap.size) :
    Spo (w.alloc (.cells #[.slice A m c] 47 (0, 0))) base (.slice (some ⟨w.heap.size, 0, none⟩) 1 1) [r] := by
  refine .inr ⟨w.heap.size, 1, _, rfl, hb, blk_new w _, fun i hi => ?_⟩
  match i, hi with
  | 0, _ => exact ⟨A, c, by show some (Value.slice A m c) = some (Value.slice A r.length c); rw [hn], by show RowI _ _ _ r.length; rw [hn]; exact h.below (below_alloc (Below.refl _ _) _)⟩
section
variable {m : Nat} {A : Option Addr} {c : Nat} {l : Prg} {w : World} (hn : l.length = m) (hC : Kd.C k72 w A m l) (hc : m ≤ c) {k : Nat}
include hn hC hc
theorem pg_twin {L : Prg} (h : narcissusref02_Twin.f l = some L) : Calls Tryz.prog 31 #[.slice A m c] w fun e w' => ∃ v0_ : Value, e = .returned v0_ ∧ Kd.R k72 72 w' w.heap.size (fun _ => True) v0_ L ∧ Below w.heap.size w w' := by
  subst hn; exact narcissusref02_Twin.calls A c l L w hC hc h
theorem pg_valid {v : Bool} (h : narcissusref02_Valid.f k l = some v) : Calls Tryz.prog 27 #[.slice A m c] w fun e w' => e = .returned (.bool v) ∧ Below w.heap.size w w' := by
  subst hn; exact narcissusref02_Valid.calls k A c l v w hC hc h
theorem pg_rbear {L : Prg} {b : Int} (h : narcissusref08_Bearer.f k l = some (L, b)) : Calls Tryz.prog 32 #[.slice A m c] w fun e w' => ∃ v0_ : Value, e = .returned (.tuple #[v0_, .int .i64 b]) ∧ Kd.R k72 72 w' w.heap.size (fun _ => True) v0_ L ∧ Below w.heap.size w w' := by
  subst hn; exact narcissusref08_Bearer.calls k A c l L b w hC hc h
theorem pg_bear {L : Prg} {b : Int} (h : ring_Bearer.f k l = some (L, b)) : Calls Tryz.prog 33 #[.slice A m c] w fun e w' => ∃ v0_ : Value, e = .returned (.tuple #[v0_, .int .i64 b]) ∧ Kd.R k72 72 w' w.heap.size (fun _ => True) v0_ L ∧ Below w.heap.size w w' := by
  subst hn; exact ring_Bearer.calls k A c l L b w hC hc h
theorem pg_same {A2 : Option Addr} {c2 : Nat} (hC2 : Kd.C k72 w A2 m l) (hc2 : m ≤ c2) (h : narcissusref02_Same.f k l l = some true) :
    Calls Tryz.prog 34 #[.slice A m c, .slice A2 m c2] w fun e w' => e = .returned (.bool true) ∧ Drawn0 w w' := by
  subst hn; exact narcissusref02_Same.calls k A c l A2 c2 l true w hC hc hC2 hc2 h
end
theorem pg_small {m : Nat} {A : Option Addr} {c : Nat} {l : Prg} {w : World} (hn : l.length = m) (hC : Kd.C k72 w A m l) (hc : m ≤ c) {k : Nat} {v : Bool} {most : Int} (h : narcissusref07_Small.f k most [l] = some v) :
    Calls Tryz.prog 10 #[.int .i64 most, .slice (some ⟨w.heap.size, 0, none⟩) 1 1] (w.alloc (.cells #[.slice A m c] 47 (0, 0))) fun e w' => e = .returned (.bool v) ∧ Drawn0 (w.alloc (.cells #[.slice A m c] 47 (0, 0))) w' :=
  tg_small (m := 1) rfl (one_row hn hC hc) (Nat.le_refl 1) h
set_option maxHeartbeats 16000000 in
set_option maxRecDepth 100000 in
theorem bearers_law (A : Option Addr) (c : Nat) (l : Prg) (m : Nat) (w : World) (hL : LaidW w) (hC : Kd.C k72 w A m l) (hcm : m ≤ c) (hn : l.length = m) (K : Nat)
    (hs : narcissusref07_Small.f K 2100000 [l] = some true) (htw : narcissusref02_Twin.f l = some l) (D : Prg) (d : Nat) (hd : D.length = d) (want : Int)
    (hg : (narcissusref02_Valid.f K l = some false ∧ want = 1 ∧ D = []) ∨ (narcissusref02_Valid.f K l = some true ∧ narcissusref08_Bearer.f K l = some (D, want)))
    (ht : ring_Bearer.f K l = some (D, want)) (hsd : narcissusref02_Same.f K D D = some true) (hsl : narcissusref02_Same.f K l l = some true) (hdl : D.length ≤ 1000000) :
    Calls Tryz.prog 8 #[.slice A m c] w (Yes w) := by
  have HB := Aside0.mk (Below.refl w.heap.size w)
  have HL := Aside0.mk hL
  have HC0 := Aside0.mk hC
  have HCM := Aside0.mk hcm
  have HN := Aside0.mk hn
  have HD := Aside0.mk hd
  have HS := Aside0.mk hs
  have HTWF := Aside0.mk htw
  have HTG := Aside0.mk ht
  have HSD := Aside0.mk hsd
  have HSL := Aside0.mk hsl
  have HDZ : Aside0 (∀ p ∈ [D], p.length ≤ 1000000) := ⟨fun p hp => by rw [List.mem_singleton.1 hp]; exact hdl⟩
  clear hL hC hcm hs htw ht hsd hsl hdl
  rcases hg with ⟨h1, rfl, rfl⟩ | ⟨h1, h2⟩
  case' inl => obtain rfl : d = 0 := hd.symm; have HVL := Aside0.mk h1; have HCD : Aside0 (0 ≤ 0) := ⟨Nat.le_refl _⟩; clear h1
  case' inr => have HVL := Aside0.mk h1; have HRT := Aside0.mk h2; clear h1 h2
  all_goals
    clear hd
    go_enter Tryz.func8, Tryz.ntmps8
    go_wp2_with (first
      | (go_at_call 10; (with_reducible refine (pg_small HN.out HC0.out HCM.out HS.out).mono ?_); rintro e w1 ⟨rfl, ⟨n1, rfl⟩⟩; have HB := Aside0.mk (pw_below_drewN (below_alloc HB.out (.cells #[.slice A m c] 47 (0, 0))) n1))
      | (go_at_call 31; (with_reducible refine (pg_twin HN.out (Kd.C_below HC0.out HB.out) HCM.out HTWF.out).mono ?_); rintro e w2 ⟨vt, rfl, hst, hb2⟩; obtain ⟨At, ct, hvt, hct, hCt⟩ := Kd.R_reads hst; rw [HN.out] at hvt hct hCt; subst hvt; have HTW := Aside0.mk hCt; have HCT := Aside0.mk hct; have HB := Aside0.mk (below_then HB.out HB.out.size hb2); clear hst hct hCt hb2)
      | (go_at_call 27; (with_reducible refine (pg_valid HN.out (Kd.C_below HTW.out (below_alloc (Below.refl _ _) _)) HCT.out HVL.out).mono ?_); rintro e w3 ⟨rfl, hb3⟩; have HTW := Aside0.mk (Kd.C_below (Kd.C_below HTW.out (below_alloc (Below.refl _ _) _)) hb3); have HB := Aside0.mk (below_then (below_alloc HB.out _) (below_alloc HB.out _).size hb3); clear hb3)
      | (go_at_call 32; (with_reducible refine (pg_rbear HN.out HTW.out HCT.out HRT.out).mono ?_); rintro e w3 ⟨vd, rfl, hsd, hb3⟩; obtain ⟨Ad, cd, hvd, hcd, hCd⟩ := Kd.R_reads hsd; rw [HD.out] at hvd hcd hCd; subst hvd; have HDU := Aside0.mk hCd; have HCD := Aside0.mk hcd; have HTW := Aside0.mk (Kd.C_below HTW.out hb3); have HB := Aside0.mk (below_then HB.out HB.out.size hb3); clear hsd hcd hCd hb3))
    first | (have HDU := HDU) | have HDU : Aside0 (Kd.C k72 w3 (some ⟨w2.heap.size, 0, none⟩) 0 []) := ⟨⟨rfl, by decide, fun h => absurd h (by decide)⟩⟩
    go_loopg [6] 3 (fun kq v8 wr => ∃ i : Nat, v8 = .int .i64 i ∧ i ≤ 2 ∧ Aside0 (kq = 2 - i + 1) ∧ Aside0 (Below w3.heap.size w3 wr))
    case atStart => exact ⟨0, rfl, Nat.zero_le _, ⟨by omega⟩, ⟨Below.refl _ _⟩⟩
    case round =>
      obtain ⟨i, rfl, hi, HI, HBR⟩ := hrel
      have HBW := Aside0.mk (below_then HB.out HB.out.size HBR.out)
      have HTW := Aside0.mk (Kd.C_below HTW.out HBR.out)
      have HDU := Aside0.mk (Kd.C_below HDU.out HBR.out)
      have HC1 := Aside0.mk (Kd.C_below HC0.out HBW.out)
      by_cases hlt : i < 2
      · obtain ⟨k2, rfl⟩ : ∃ k2, gk = k2 + 1 := ⟨gk - 1, by have := HI.out; omega⟩
        have b2 : (i : Int) < 2 := by omega
        go_wp2_with (first
          | (go_at_call 33; (with_reducible refine (pg_bear HN.out HC1.out HCM.out HTG.out).mono ?_); rintro e' w5 ⟨ve, rfl, hse, hb5⟩; obtain ⟨Ae, ce, hve, hce, hCe⟩ := Kd.R_reads hse; obtain ⟨Ae2, ce2, hve2, hre⟩ := RowI.of_R hse; rw [HD.out] at hve hce hCe hve2 hre; subst hve; injection hve2 with hA1 hA2 hA3; subst hA1; have HRI := Aside0.mk hre; have HE := Aside0.mk hCe; have HCE := Aside0.mk hce; have HB5 := Aside0.mk hb5; have HTW := Aside0.mk (Kd.C_below HTW.out hb5); have HDU := Aside0.mk (Kd.C_below HDU.out hb5); have HC1 := Aside0.mk (Kd.C_below HC1.out hb5); clear hse hce hCe hb5 hre hA2 hA3)
          | (go_at_call 34; first
              | ((with_reducible refine (pg_same HD.out HE.out HCE.out HDU.out HCD.out HSD.out).mono ?_); rintro e w6 ⟨rfl, ⟨n6, rfl⟩⟩)
              | ((with_reducible refine (pg_same HN.out (Kd.C_below HC1.out (pw_below_drewN (Below.refl _ _) _)) HCM.out (Kd.C_below HTW.out (pw_below_drewN (Below.refl _ _) _)) HCT.out HSL.out).mono ?_); rintro e w6 ⟨rfl, ⟨n7, rfl⟩⟩))
          | (go_at_call 17; refine (spoil_calls _ _ _ wr.heap.size (Spo.one HD.out (HRI.out.below (pw_below_drewN (Below.refl _ _) _)) (by simpa using HB5.out.size)) (by simp) HDZ.out).mono ?_; rintro e w7 ⟨rfl, hb7⟩; have HB7 : Aside0 (Below wr.heap.size wr w7) := ⟨Below.trans (below_alloc (pw_below_drewN HB5.out _) _) hb7⟩; clear hb7))
        go_roundg k2
        case measure => omega
        case rel => exact ⟨i + 1, by go_num, by omega, ⟨by have := HI.out; omega⟩, ⟨below_then HBR.out HBR.out.size HB7.out⟩⟩
      · obtain rfl : i = 2 := by omega
        go_wp2_with (first
          | (go_at_call 34; (with_reducible refine (pg_same HN.out HC1.out HCM.out HTW.out HCT.out HSL.out).mono ?_); rintro e w6 ⟨rfl, ⟨n6, rfl⟩⟩; have HBW := Aside0.mk (pw_below_drewN HBW.out n6))
          | (go_at_call 11; (with_reducible refine (awake_calls _ (HL.out.below HBW.out)).mono ?_); rintro e w9 ⟨rfl, hb⟩; have HBW := Aside0.mk (below_then HBW.out HBW.out.size hb); clear hb))
        go_ret
        exact ⟨rfl, HBW.out⟩
end Go.Proofs.YtocoamgbpoommaaGreatDoor.C
end
section
namespace Go.Proofs.YtocoamgbpoommaaGreatDoor.C
open Go.RowKit Go.Proofs.YtocoamgbpoommaaGreatDoorW.PrintWords Go.Proofs.YtocoamgbpoommaaGreatDoorW.PrintLast Go.Proofs.YtocoamgbpoommaaGreatDoorW.PrintMore
open Go.Proofs.YtocoamgbpoommaaGreatDoor.Plain (OKP Fits small_has twin_tells same_yes refValidp_tells top_yes bearer_yes bearer_large bearer_regs bearer_form bearQ madeK FineK Under)
set_option linter.unusedVariables false
set_option linter.unusedSimpArgs false
set_option maxHeartbeats 2000000 in
set_option maxRecDepth 100000 in
theorem bearers_out (A : Option Addr) (c : Nat) (l : Prg) (m : Nat) (w : World) (hL : LaidW w) (hC : Kd.C k72 w A m l) (hcm : m ≤ c) (hn : l.length = m) (K : Nat) (hs : narcissusref07_Small.f K 2100000 [l] = some false) :
    Calls Tryz.prog 8 #[.slice A m c] w (Yes w) := by
  have HB := Aside0.mk (Below.refl w.heap.size w)
  have HL := Aside0.mk hL
  have HC0 := Aside0.mk hC
  have HCM := Aside0.mk hcm
  have HN := Aside0.mk hn
  have HS := Aside0.mk hs
  clear hL hC hcm hs
  go_enter Tryz.func8, Tryz.ntmps8
  go_wp2_with (first
    | (go_at_call 10; (with_reducible refine (pg_small HN.out HC0.out HCM.out HS.out).mono ?_); rintro e w1 ⟨rfl, ⟨n1, rfl⟩⟩; have HB := Aside0.mk (pw_below_drewN (below_alloc HB.out (.cells #[.slice A m c] 47 (0, 0))) n1))
    | (go_at_call 11; (with_reducible refine (awake_calls _ (HL.out.below HB.out)).mono ?_); rintro e w9 ⟨rfl, hb⟩; have HB := Aside0.mk (below_then HB.out HB.out.size hb); clear hb))
  go_ret
  exact ⟨rfl, HB.out⟩
def FitsP (l : Prg) : Prop := l.length * 48 ≤ 140737488351232 ∧ ∀ i ∈ l, i.f4.size ≤ 140737488351232
theorem narcissuslaw08_RingBearers.calls (A : Option Addr) (c : Nat) (l : Prg) (w : World) (hC : Kd.C k72 w A l.length l) (hc : l.length ≤ c) (hL : LaidW w) (hf : FitsP l) :
    Calls Tryz.prog 8 #[.slice A l.length c] w fun e w' => e = .returned (.bool true) ∧ Below w.heap.size w w' := by
  show Calls _ _ _ _ (Yes w)
  have hz : l.length ≤ 2932031007401 := by have := hf.1; omega
  have hft : Fits l := fun x hx => by have := hf.2 x hx; omega
  obtain ⟨v, e3⟩ := small_has 2100000 [l] (by simp) (fun p hp => by rw [List.mem_singleton.1 hp]; exact hz) 3000000000000 (by omega)
  cases v with
  | false => exact bearers_out A c l l.length w hL hC hc rfl _ e3
  | true =>
  have etw := twin_tells l hz
  have esl := same_yes l (by omega) 3000000000000 (by omega)
  have es0 := same_yes [] (by decide) 3000000000000 (by decide)
  obtain ⟨v, e5, hv⟩ := refValidp_tells l hft 3000000000000 (by omega)
  cases v with
  | false =>
    have hno : ¬ OKP l := fun h => by cases hv.2 h
    exact bearers_law A c l l.length w hL hC hc rfl _ e3 etw [] 0 rfl 1 (.inl ⟨e5, rfl, rfl⟩) (bearer_form hno _ (by omega)) es0 esl (by decide)
  | true =>
  replace hv := hv.1 rfl
  obtain ⟨t, t1, t2, _, ht⟩ := top_yes hv
  obtain ⟨r1, r2⟩ := ht 3000000000000 (by omega)
  by_cases h31 : t ≤ 31
  · by_cases hfn : OKP (bearQ t l) ∧ FineK (bearQ t l)
    · obtain ⟨b1, b2⟩ := bearer_yes hv h31 hfn 3000000000000 (by omega) r1 r2
      have hl4 := hfn.2.2.1.1
      exact bearers_law A c l l.length w hL hC hc rfl _ e3 etw _ _ rfl 0 (.inr ⟨e5, b2⟩) b1 (same_yes _ (by omega) _ (by omega)) esl (by omega)
    · obtain ⟨b1, b2⟩ := bearer_large hv h31 hfn 3000000000000 (by omega) r1 r2
      exact bearers_law A c l l.length w hL hC hc rfl _ e3 etw [] 0 rfl 3 (.inr ⟨e5, b2⟩) b1 es0 esl (by decide)
  · obtain ⟨b1, b2⟩ := bearer_regs (p := l) (by omega) 3000000000000 r1 r2
    exact bearers_law A c l l.length w hL hC hc rfl _ e3 etw [] 0 rfl 8 (.inr ⟨e5, b2⟩) b1 es0 esl (by decide)
end Go.Proofs.YtocoamgbpoommaaGreatDoor.C
end
section
namespace Go.Proofs.YtocoamgbpoommaaGreatDoor.Card
open Go.ChangeShapes Go.WideShapes Go.ChangeAt Go.RowKit
open Go.Proofs.YtocoamgbpoommaaGreatDoor.C (LaidW pow10_named)
def L7 : List (String × DataW Unit) := [("math/bits.deBruijn32tab", Rows.laid_math_bits_deBruijn32tab), ("math/bits.deBruijn64tab", Rows.laid_math_bits_deBruijn64tab), ("internal/strconv.uint64pow10", Rows.laid_internal_strconv_uint64pow10), ("unicode/utf8.acceptRanges", Rows.laid_unicode_utf8_acceptRanges), ("strconv.ErrRange", Rows.laid_strconv_ErrRange), ("strconv.ErrSyntax", Rows.laid_strconv_ErrSyntax), ("unicode/utf8.first", Rows.laid_unicode_utf8_first)]
theorem own : ownKnob Tryz.prog.godebug = none := by kernel_rfl
theorem laidOut : laidOutB Tryz.prog = true := by kernel_rfl
theorem star : "*" ++ "errors.errorString" = "*errors.errorString" := by decide
theorem rowErr (u : TypeId) (h : Tryz.prog.typeName? 3 u = some "*errors.errorString") : u = 192 :=
  typeName_ptr_named (nm := "errors.errorString") (by rw [star]; kernel_rfl) (by kernel_rfl) (by decide) u (by rw [star]; exact h)
theorem gRange : Tryz.prog.globalNamed "strconv.ErrRange" = some 4 := by kernel_rfl
theorem gSyntax : Tryz.prog.globalNamed "strconv.ErrSyntax" = some 3 := by kernel_rfl
theorem tRange : (Tryz.prog.globals[4]?).map (·.type) = some 112 := by kernel_rfl
theorem tSyntax : (Tryz.prog.globals[3]?).map (·.type) = some 112 := by kernel_rfl
theorem tPow : (Tryz.prog.globals[5]?).map (·.type) = some 196 := by kernel_rfl
theorem cPow : Tryz.prog.cellsOf 196 = 20 := by kernel_rfl
theorem cU64 : Tryz.prog.cellsOf 161 = 1 := by kernel_rfl
theorem cErr : Tryz.prog.cellsOf 194 = 1 := by kernel_rfl
theorem cStr : Tryz.prog.cellsOf 9 = 1 := by kernel_rfl
theorem plain7 : ∀ W, laidMetH Tryz.prog L7 W = laidMet Tryz.prog L7 W := fun W => MakeChecks.laidMetH_plain _ _ _ (by kernel_rfl)
theorem laidW_of {W : World} (hsh : W.ShapedOpen Tryz.prog) (hH : laidMetH Tryz.prog L7 W) : LaidW W := by
  rw [plain7] at hH
  have h3 := laidMet.tail (laidMet.tail hH)
  have hT : Lib.TabIs Tryz.prog W "internal/strconv.uint64pow10" .u64 Lib.pow10Tab :=
    Lib.tabIs_of_head (k := .u64) (zs := Lib.pow10Tab) pow10_named tPow Tryz.underlying196 Tryz.underlying161 cU64 cPow h3
  have h5 := laidMet.tail (laidMet.tail h3)
  obtain ⟨a0, _, hv0, _⟩ := laid_sentinel h5 gRange tRange Tryz.underlying112 rowErr Tryz.underlying192 Tryz.underlying194 rfl rfl Tryz.underlying9 cErr cStr
  obtain ⟨a1, _, hv1, _⟩ := laid_sentinel (laidMet.tail h5) gSyntax tSyntax Tryz.underlying112 rowErr Tryz.underlying192 Tryz.underlying194 rfl rfl Tryz.underlying9 cErr cStr
  have hm := cell_of_shapedOpen_int (P := Tryz.prog) (g := 0) (t := 3) (k := .i64) (zero := #[.int .i64 0]) hsh (of_decide_eq_true (by kernel_rfl)) (by kernel_rfl) rfl (by kernel_rfl) (by kernel_rfl) Tryz.underlying3
  exact ⟨hm, ⟨_, _, by simpa using World.var?_cell gSyntax hv1 0⟩, ⟨_, _, by simpa using World.var?_cell gRange hv0 0⟩, hT⟩
noncomputable abbrev laidWorld (os : Os) : World := World.laidAll Tryz.prog os L7
set_option maxRecDepth 100000 in
theorem laid_met (os : Os) (args : Array Value) : laidMetH Tryz.prog L7 ((laidWorld os).forCall (fun _ _ => 0) ⟨#[], args, []⟩).memory := by
  rw [plain7]
  exact laidMet_laidAll _ (by kernel_rfl) (by kernel_rfl)
end Go.Proofs.YtocoamgbpoommaaGreatDoor.Card
end
