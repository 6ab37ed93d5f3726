/- Texts of this claim, together: what the functions return, and what they say in plain words. -/
import Derived.Test.YtpnmmpfidiegcaaGreatDoorUS
import Derived.Test.YtpnmmpfidiegcaaGreatDoorUQ
import Derived.Test.YtpnmmpfidiegcaaGreatDoorUU
import Derived.Test.YtpnmmpfidiegcaaGreatDoorUB
import Derived.Test.YtpnmmpfidiegcaaGreatDoorUF
section
namespace Go.Proofs.YtpnmmpfidiegcaaGreatDoor.Plain
open Go.Proofs.YtpnmmpfidiegcaaGreatDoor.C
open Go.RowKit Go.Proofs.YtpnmmpfidiegcaaGreatDoorW.PrintWords Go.Proofs.YtpnmmpfidiegcaaGreatDoorW.PrintLast Go.Proofs.YtpnmmpfidiegcaaGreatDoorW.PrintMore
set_option linter.unusedVariables false
set_option linter.unusedSimpArgs false
theorem vi_knowHead : VI knowHead := fun j hj => by
  have h := vi_of_B knowHead knowHead 16 0 (by decide +kernel) j hj
  rw [Nat.zero_add] at h
  exact h
def iPut : List Ins := [⟨2, 0, 1, 0, ⟨#[]⟩⟩]
def iClear : List Ins := [⟨0, 1, 0, 0, ⟨#[48]⟩⟩]
theorem okp_put : OKP iPut := okp_iff.2 ⟨by decide, by decide, fun j hj => by
  have h := vi_of_B iPut iPut 1 0 (by decide +kernel) j hj
  rw [Nat.zero_add] at h
  exact h⟩
theorem okp_clear : OKP iClear := okp_iff.2 ⟨by decide, by decide, fun j hj => by
  have h := vi_of_B iClear iClear 1 0 (by decide +kernel) j hj
  rw [Nat.zero_add] at h
  exact h⟩
theorem put_code : bs (codeL iPut) = ⟨#[49, 49, 49, 48, 49, 48, 48, 49, 48, 49, 49, 48, 48, 48, 48]⟩ := by decide +kernel
theorem clear_code : bs (codeL iClear) = ⟨#[49, 49, 48, 49, 49, 48, 48, 48, 48]⟩ := by decide +kernel
theorem clear_tells (k : Nat) (hk : 10 ≤ k) : know_Clear.f k 2 6 = some [⟨0, 2, 0, 0, ⟨#[48]⟩⟩, ⟨0, 3, 0, 0, ⟨#[48]⟩⟩, ⟨0, 4, 0, 0, ⟨#[48]⟩⟩, ⟨0, 5, 0, 0, ⟨#[48]⟩⟩, ⟨0, 6, 0, 0, ⟨#[48]⟩⟩] := by
  obtain ⟨k, rfl⟩ : ∃ m, k = m + 6 := ⟨k - 6, by omega⟩
  unfold know_Clear.f
  simp [know_Clear.l0, wrap64]
theorem knowBefore_tells (k : Nat) (hk : 4010 ≤ k) : know_before.f k = some knowHead := by
  have h1 := code_yes hk okp_put
  have h2 := code_yes hk okp_clear
  rw [if_neg (by decide +kernel), put_code] at h1
  rw [if_neg (by decide +kernel), clear_code] at h2
  unfold know_before.f
  rw [show ([⟨2, 0, 1, 0, (⟨#[]⟩ : ByteArray)⟩] : List Ins) = iPut from rfl, h1, Option.bind_some, show ([⟨0, 1, 0, 0, (⟨#[48]⟩ : ByteArray)⟩] : List Ins) = iClear from rfl, h2, clear_tells k (by omega)]
  clear h1 h2 hk k
  show (_ : Option (List Ins)) = some knowHead
  kernel_rfl
theorem join_tells (q : List Ins) (hq : q.length ≤ 1000000) (k : Nat) (hk : 4020 ≤ k) : ∃ v, know_join.f k [knowHead, q] = some (knowHead ++ q, v) ∧ (v = true ↔ OKP (knowHead ++ q)) := by
  obtain ⟨k, rfl⟩ : ∃ m, k = m + 3 := ⟨k - 3, by omega⟩
  obtain ⟨v, e, hv⟩ := validp_tells (knowHead ++ q) k (by omega)
  refine ⟨v, ?_, hv⟩
  have hl : knowHead.length = 16 := rfl
  unfold know_join.f
  show know_join.l0 (k + 2 + 1) [] [knowHead, q] 2 0 = _
  rw [know_join.l0, if_pos (by decide), if_pos (by decide), if_pos (by simp), show rd_L6 [knowHead, q] 0 = knowHead from rfl, if_pos (by rw [hl]; simp), show wrap64 (0 + 1) = 1 from by decide +kernel, show k + 2 = k + 1 + 1 from rfl,
    know_join.l0, if_pos (by decide), if_pos (by decide), if_pos (by simp), show rd_L6 [knowHead, q] 1 = q from rfl, if_pos (by rw [List.nil_append, hl]; omega), show wrap64 (1 + 1) = 2 from by decide +kernel, know_join.l0, if_neg (by decide), List.nil_append, e]
  rfl
def madeK (q : List Ins) : List Ins := specHead (bs (codeL (knowHead ++ q))) ++ (knowHead ++ q)
def FineK (q : List Ins) : Prop := (OKP (knowHead ++ q) ∧ (codeL (knowHead ++ q)).length ≤ 2000000) ∧ OKP (madeK q) ∧ (codeL (madeK q)).length ≤ 2000000
theorem validT_code {p : List Ins} (h : OKP p) (hz : (codeL p).length ≤ 2000000) : ValidT (bs (codeL p)) := ⟨by rw [bs_size]; exact hz, by rw [bl_bs]; exact isT_codeL (okp_nice h)⟩
theorem know_yes {q : List Ins} (hq : OKP q) (hf : FineK q) (k : Nat) (hk : 4030 ≤ k) : know_Know.f k q = some (madeK q, 0) := by
  obtain ⟨v, e, hv⟩ := join_tells q (by have := hq.1; omega) k (by omega)
  obtain ⟨⟨h1, h2⟩, h3, h4⟩ := hf
  unfold know_Know.f
  rw [validp_yes (by omega) hq, Option.bind_some, if_pos rfl, knowBefore_tells k (by omega), Option.bind_some, e, Option.bind_some, if_pos (hv.2 h1), code_yes (by omega) h1, if_neg (by omega), Option.bind_some, if_pos rfl, (spec_tells h1 (validT_code h1 h2) k (by omega)).1 h3, Option.bind_some, if_pos rfl,
    show specHead (bs (codeL (knowHead ++ q))) ++ (knowHead ++ q) = madeK q from rfl, code_yes (by omega) h3, if_neg (by omega), Option.bind_some, if_pos rfl]
end Go.Proofs.YtpnmmpfidiegcaaGreatDoor.Plain
end
section
namespace Go.Proofs.YtpnmmpfidiegcaaGreatDoor.C
open Go.RowKit Go.Proofs.YtpnmmpfidiegcaaGreatDoorW.PrintWords Go.Proofs.YtpnmmpfidiegcaaGreatDoorW.PrintLast Go.Proofs.YtpnmmpfidiegcaaGreatDoorW.PrintMore
attribute [local go_sem] max2_int min2_int max_two min_two max_three min_three max_four min_four
set_option linter.unusedVariables false
set_option linter.unusedSimpArgs false
def ring_Bearer.f (k : Nat) (l0 : List (S52)) : Option ((List (S52)) × Int) := (code_Regs.f k l0).bind fun bt1 => (if bt1.2 = 0 then (if bt1.1 > 31 then (some (([] : List (S52)), 8)) else ((some (([(⟨3, bt1.1, 0, 0, (⟨#[]⟩ : ByteArray)⟩ : S52), (⟨4, 0, 0, 0, (⟨#[]⟩ : ByteArray)⟩ : S52)] : List (S52)) : List (S52))).bind fun y3 => (if y3.length + l0.length < 2932031007402 then ((some (y3 ++ l0 : List (S52))).bind fun y6 => (if y6.length < 2932031007402 then ((some (y6 ++ [(⟨2, 0, bt1.1, 0, (⟨#[]⟩ : ByteArray)⟩ : S52)] : List (S52))).bind fun y9 => ((code_Valid.f k y9).bind fun t12 => (if t12 = true then ((know_Know.f k y9).bind fun bt13 => (some (bt13.1, bt13.2))) else (some (([] : List (S52)), 3))))) else (none))) else (none)))) else (some (([] : List (S52)), bt1.2)))
set_option maxHeartbeats 8000000 in
set_option maxRecDepth 100000 in
theorem ring_Bearer.calls (k : Nat) (A0 : Option Addr) (c0 : Nat) (l0 : List (S52)) (r1 : List (S52)) (r2 : Int) (w : World) (hr0 : Kd.C k52 w A0 l0.length l0) (hc0 : l0.length ≤ c0) (h : ring_Bearer.f k l0 = some (r1, r2)) :
  Calls Tryz.prog 20 #[.slice A0 l0.length c0] w fun e w' => ∃ v0_ : Value, e = .returned (.tuple #[v0_, .int .i64 r2]) ∧ Kd.R k52 52 w' w.heap.size (fun _ => True) v0_ r1 ∧ Below w.heap.size w w' := by
 have hu52 := Tryz.underlying52
 have HR0 := Aside0.mk hr0
 have HC0 := Aside0.mk hc0
 clear hr0 hc0
 have HB := Aside0.mk (Below.refl w.heap.size w)
 have H : ((code_Regs.f k l0).bind fun bt1 => (if bt1.2 = 0 then (if bt1.1 > 31 then (some (([] : List (S52)), 8)) else ((some (([(⟨3, bt1.1, 0, 0, (⟨#[]⟩ : ByteArray)⟩ : S52), (⟨4, 0, 0, 0, (⟨#[]⟩ : ByteArray)⟩ : S52)] : List (S52)) : List (S52))).bind fun y3 => (if y3.length + l0.length < 2932031007402 then ((some (y3 ++ l0 : List (S52))).bind fun y6 => (if y6.length < 2932031007402 then ((some (y6 ++ [(⟨2, 0, bt1.1, 0, (⟨#[]⟩ : ByteArray)⟩ : S52)] : List (S52))).bind fun y9 => ((code_Valid.f k y9).bind fun t12 => (if t12 = true then ((know_Know.f k y9).bind fun bt13 => (some (bt13.1, bt13.2))) else (some (([] : List (S52)), 3))))) else (none))) else (none)))) else (some (([] : List (S52)), bt1.2)))) = some (r1, r2) := h
 clear h
 replace H := Option.bind_eq_some_iff.mp H
 obtain ⟨⟨t1, t2⟩, A20, H⟩ := H
 replace H : (if t2 = 0 then (if t1 > 31 then (some (([] : List (S52)), 8)) else ((some (([(⟨3, t1, 0, 0, (⟨#[]⟩ : ByteArray)⟩ : S52), (⟨4, 0, 0, 0, (⟨#[]⟩ : ByteArray)⟩ : S52)] : List (S52)) : List (S52))).bind fun y3 => (if y3.length + l0.length < 2932031007402 then ((some (y3 ++ l0 : List (S52))).bind fun y6 => (if y6.length < 2932031007402 then ((some (y6 ++ [(⟨2, 0, t1, 0, (⟨#[]⟩ : ByteArray)⟩ : S52)] : List (S52))).bind fun y9 => ((code_Valid.f k y9).bind fun t12 => (if t12 = true then ((know_Know.f k y9).bind fun bt13 => (some (bt13.1, bt13.2))) else (some (([] : List (S52)), 3))))) else (none))) else (none)))) else (some (([] : List (S52)), t2))) = some (r1, r2) := H
 have A2 := Aside0.mk A20
 clear A20
 by_cases c3 : t2 = 0
 ·rw [if_pos c3] at H
  have c3b0 : (t2 == 0) = true := beq_iff_eq.mpr c3
  have c3b1 : (t2 != 0) = false := bne_eq_false_iff_eq.mpr c3
  clear c3
  by_cases c4 : t1 > 31
  ·rw [if_pos c4] at H
   have c4b0 : decide (31 < t1) = true := decide_eq_true c4
   clear c4
   simp only [Option.some.injEq, Prod.mk.injEq] at H
   obtain ⟨rfl, rfl⟩ := H
   go_enter Tryz.func20, Tryz.ntmps20
   go_wp2_with (first | ((with_reducible refine gate_callee (f := 30) rfl ?_); refine goesL_ (some 9) rfl rfl Tryz.func30 (by kernel_rfl) rfl #[.slice A0 l0.length c0] rfl (by (try simp only [List.map_toArray, List.map_cons, List.map_nil]); first | done | rfl | (simp only [List.length_drop, List.length_take]; rfl)) ?_; (with_reducible refine (code_Regs.calls k _ _ l0 t1 t2 _ ?side1 ?side2 A2.out).mono ?_); (case side1 => repeat (first | exact HR0.out | (with_reducible refine Kd.C_alloc ?_ _) | (with_reducible refine Kd.C_drewN ?_ _) | (with_reducible refine Kd.C_drew ?_))); (case side2 => exact HC0.out); rintro e w5 ⟨rfl, hb⟩; refine ⟨_, rfl, ?_⟩; have n0_ := Aside0.mk (below_step (by repeat (first | (with_reducible first | exact HB.out | apply below_alloc | apply pw_below_drewN | apply below_drew1) | exact HB.out)) hb); clear HB; have HB := n0_; clear n0_; (try clear hb); (try clear hb2); (try clear hk); (try clear hi)))
   go_ret2
   exact ⟨_, by first | rfl | (simp [errW_none, errW_some] <;> rfl) | (simp [*, errW_none, errW_some] <;> rfl), by first | exact Kd.R_nil _ _ _ _ _ | exact Kd.N_nil _ _ _ _ _ | exact Kd.V_nil _ _ _ _ _ | exact Kd.Q_nil _ _ _ _ _ | exact Kd.S_nil _ _ _ _ _, by repeat (first | (with_reducible first | exact HB.out | apply below_alloc | apply pw_below_drewN | apply below_drew1) | exact HB.out)⟩
  ·rw [if_neg c4] at H
   have c4b0 : decide (31 < t1) = false := decide_eq_false c4
   clear c4
   obtain ⟨y3, hy3⟩ : ∃ y_ : List (S52), y_ = (([(⟨3, t1, 0, 0, (⟨#[]⟩ : ByteArray)⟩ : S52), (⟨4, 0, 0, 0, (⟨#[]⟩ : ByteArray)⟩ : S52)] : List (S52))) := ⟨_, rfl⟩
   replace H : (if y3.length + l0.length < 2932031007402 then ((some (y3 ++ l0 : List (S52))).bind fun y6 => (if y6.length < 2932031007402 then ((some (y6 ++ [(⟨2, 0, t1, 0, (⟨#[]⟩ : ByteArray)⟩ : S52)] : List (S52))).bind fun y9 => ((code_Valid.f k y9).bind fun t12 => (if t12 = true then ((know_Know.f k y9).bind fun bt13 => (some (bt13.1, bt13.2))) else (some (([] : List (S52)), 3))))) else (none))) else (none)) = some (r1, r2) := by first | (rw [hy3]; with_reducible exact H) | (have H2_ := (Option.bind_some _ _).symm.trans H; rw [hy3]; with_reducible exact H2_) | (have H2_ := (Option.bind_some _ _).symm.trans H; with_reducible exact H2_) | with_reducible exact H | (rw [hy3]; exact H) | exact H
   have Ny3 := Aside0.mk hy3
   clear hy3
   by_cases c6 : y3.length + l0.length < 2932031007402
   ·rw [if_pos c6] at H
    have LMc6 := Aside0.mk c6
    clear c6
    obtain ⟨y6, hy6⟩ : ∃ y_ : List (S52), y_ = (y3 ++ l0) := ⟨_, rfl⟩
    replace H : (if y6.length < 2932031007402 then ((some (y6 ++ [(⟨2, 0, t1, 0, (⟨#[]⟩ : ByteArray)⟩ : S52)] : List (S52))).bind fun y9 => ((code_Valid.f k y9).bind fun t12 => (if t12 = true then ((know_Know.f k y9).bind fun bt13 => (some (bt13.1, bt13.2))) else (some (([] : List (S52)), 3))))) else (none)) = some (r1, r2) := by first | (rw [hy6]; with_reducible exact H) | (have H2_ := (Option.bind_some _ _).symm.trans H; rw [hy6]; with_reducible exact H2_) | (have H2_ := (Option.bind_some _ _).symm.trans H; with_reducible exact H2_) | with_reducible exact H | (rw [hy6]; exact H) | exact H
    have Ny6 := Aside0.mk hy6
    clear hy6
    by_cases c7 : y6.length < 2932031007402
    ·rw [if_pos c7] at H
     have LMc7 := Aside0.mk c7
     clear c7
     obtain ⟨y9, hy9⟩ : ∃ y_ : List (S52), y_ = (y6 ++ [(⟨2, 0, t1, 0, (⟨#[]⟩ : ByteArray)⟩ : S52)]) := ⟨_, rfl⟩
     replace H : ((code_Valid.f k y9).bind fun t12 => (if t12 = true then ((know_Know.f k y9).bind fun bt13 => (some (bt13.1, bt13.2))) else (some (([] : List (S52)), 3)))) = some (r1, r2) := by first | (rw [hy9]; with_reducible exact H) | (have H2_ := (Option.bind_some _ _).symm.trans H; rw [hy9]; with_reducible exact H2_) | (have H2_ := (Option.bind_some _ _).symm.trans H; with_reducible exact H2_) | with_reducible exact H | (rw [hy9]; exact H) | exact H
     have Ny9 := Aside0.mk hy9
     clear hy9
     replace H := Option.bind_eq_some_iff.mp H
     obtain ⟨t12, A80, H⟩ := H
     replace H : (if t12 = true then ((know_Know.f k y9).bind fun bt13 => (some (bt13.1, bt13.2))) else (some (([] : List (S52)), 3))) = some (r1, r2) := H
     have A8 := Aside0.mk A80
     clear A80
     by_cases c9 : t12 = true
     ·subst c9
      have H1 : ((know_Know.f k y9).bind fun bt13 => (some (bt13.1, bt13.2))) = some (r1, r2) := by rw [if_pos rfl] at H; exact H
      clear H
      have H := H1
      clear H1
      replace H := Option.bind_eq_some_iff.mp H
      obtain ⟨⟨t13, t16⟩, A100, H⟩ := H
      replace H : (some (t13, t16)) = some (r1, r2) := H
      have A10 := Aside0.mk A100
      clear A100
      simp only [Option.some.injEq, Prod.mk.injEq] at H
      obtain ⟨rfl, rfl⟩ := H
      go_enter Tryz.func20, Tryz.ntmps20
      go_wp2_with (first | ((with_reducible refine gate_callee (f := 30) rfl ?_); refine goesL_ (some 9) rfl rfl Tryz.func30 (by kernel_rfl) rfl #[.slice A0 l0.length c0] rfl (by (try simp only [List.map_toArray, List.map_cons, List.map_nil]); first | done | rfl | (simp only [List.length_drop, List.length_take]; rfl)) ?_; (with_reducible refine (code_Regs.calls k _ _ l0 t1 t2 _ ?side1 ?side2 A2.out).mono ?_); (case side1 => repeat (first | exact HR0.out | (with_reducible refine Kd.C_alloc ?_ _) | (with_reducible refine Kd.C_drewN ?_ _) | (with_reducible refine Kd.C_drew ?_))); (case side2 => exact HC0.out); rintro e w11 ⟨rfl, hb⟩; refine ⟨_, rfl, ?_⟩; have n0_ := Aside0.mk (below_step (by repeat (first | (with_reducible first | exact HB.out | apply below_alloc | apply pw_below_drewN | apply below_drew1) | exact HB.out)) hb); clear HB; have HB := n0_; clear n0_; (try clear hb); (try clear hb2); (try clear hk); (try clear hi)) | ((with_reducible refine gate_dst (N := 22) rfl ?_); refine Kd.R_lit k52 _ 52 ?hg (N := 22) ?hd (xs := ([(⟨3, t1, 0, 0, (⟨#[]⟩ : ByteArray)⟩ : S52), (⟨4, 0, 0, 0, (⟨#[]⟩ : ByteArray)⟩ : S52)] : List (S52))) (inner := [.int .i64 3, .int .i64 t1, .int .i64 0, .int .i64 0, .string (⟨#[]⟩ : ByteArray), .int .i64 4, .int .i64 0, .int .i64 0, .int .i64 0, .string (⟨#[]⟩ : ByteArray)]) (ok := fun _ => True) (okp := fun _ => True) ?hr ?hp (fun _ hk => hk) trivial (Below.refl _ _) (Nat.le_refl _) (by simp) ?_; (case hd => rfl); (case hg => rfl); (case hr => first | (go_simp; done) | (go_simp; rfl)); (case hp => exact (Reps.c5 (show Kd.M k52 _ _ _ (⟨3, t1, 0, 0, (⟨#[]⟩ : ByteArray)⟩ : S52) [.int .i64 3, .int .i64 t1, .int .i64 0, .int .i64 0, .string (⟨#[]⟩ : ByteArray)] from (k52_mkM _ _ _ (⟨3, t1, 0, 0, (⟨#[]⟩ : ByteArray)⟩ : S52) )) (Reps.c5 (show Kd.M k52 _ _ _ (⟨4, 0, 0, 0, (⟨#[]⟩ : ByteArray)⟩ : S52) [.int .i64 4, .int .i64 0, .int .i64 0, .int .i64 0, .string (⟨#[]⟩ : ByteArray)] from (k52_mkM _ _ _ (⟨4, 0, 0, 0, (⟨#[]⟩ : ByteArray)⟩ : S52) )) (Reps.none _ _)))); intro v4 w12 ho13 hb hg_ hnew_; clear hg_ hnew_; (first | rw [← Ny3.out] at ho13 | (simp only [Int.reduceToNat] at ho13; rw [← Ny3.out] at ho13)); have n0_ := Aside0.mk (Kd.R_lower ho13 (below_size (by repeat (first | (with_reducible first | exact HB.out | apply below_alloc | apply pw_below_drewN | apply below_drew1) | exact HB.out)))); have n1_ := Aside0.mk (below_step (by repeat (first | (with_reducible first | exact HB.out | apply below_alloc | apply pw_below_drewN | apply below_drew1) | exact HB.out)) hb); clear HB; have HO5 := n0_; have HB := n1_; clear n0_ n1_; clear hb ho13) | ((with_reducible refine gate_builtin (b := .append) (xs := #[.tmp 22, .tmp 23]) rfl ?_); at_builtin; refine Kd.R_append_rows k52 (w0 := w) w.heap.size rfl (.tmp 22) (.tmp 23) 29 52 (.agg #[(.int .i64 0), (.int .i64 0), (.int .i64 0), (.int .i64 0), (.string ⟨#[]⟩)]) 48 rfl Tryz.underlying29 info52 rfl (by decide) (by omega) v4 y3 l0 _ _ _ (fun _ => True) (fun _ => False) rfl rfl ?aO ?aR (fun _ _ h => h) (fun _ h => h.elim) ?aF ?aB ?aS ?aL ?_; (case aR => repeat (first | exact (Kd.C_below HR0.out HB.out) | (with_reducible refine Kd.C_alloc ?_ _) | (with_reducible refine Kd.C_drewN ?_ _) | (with_reducible refine Kd.C_drew ?_))); (case aB => exact (by repeat (first | (with_reducible first | exact HB.out | apply below_alloc | apply pw_below_drewN | apply below_drew1) | exact HB.out))); (case aF => exact (fun _ _ => trivial)); (case aO => exact (by (with_reducible repeat (first | apply Kd.R_alloc | apply Kd.R_drewN | apply Kd.R_drew)); exact HO5.out)); (case aS => exact (below_size (by repeat (first | (with_reducible first | exact HB.out | apply below_alloc | apply pw_below_drewN | apply below_drew1) | exact HB.out)))); (case aL => have := LMc6.out; first | omega | (simp only [lit_size, List.size_toArray, List.length_cons, List.length_nil]; omega)); intro v7 w14 ho hb hg hat; rw [← Ny6.out] at ho; have n0_ := Aside0.mk (hb); have n1_ := Aside0.mk (ho); clear HB; clear HO5; have HB := n0_; have HO8 := n1_; clear n0_ n1_; clear ho hb hg hat) | ((with_reducible refine gate_builtin (b := .append) (xs := #[.tmp 25, .tmp 28]) rfl ?_); at_builtin; refine Kd.R_append k52 (w0 := w) w.heap.size rfl (.tmp 25) (.tmp 28) 29 52 (.agg #[(.int .i64 0), (.int .i64 0), (.int .i64 0), (.int .i64 0), (.string ⟨#[]⟩)]) 48 rfl Tryz.underlying29 info52 rfl (by decide) (by omega) v7 y6 (⟨2, 0, t1, 0, (⟨#[]⟩ : ByteArray)⟩ : S52) [.int .i64 2, .int .i64 0, .int .i64 t1, .int .i64 0, .string (⟨#[]⟩ : ByteArray)] (fun _ => True) (fun _ => False) rfl rfl ?aP (fun _ hk => hk.elim) ?aF ?aO ?aB ?aS ?aL ?_; (case aP => exact k52_mkM _ _ _ (⟨2, 0, t1, 0, (⟨#[]⟩ : ByteArray)⟩ : S52)); (case aB => exact (by repeat (first | (with_reducible first | exact HB.out | apply below_alloc | apply pw_below_drewN | apply below_drew1) | exact HB.out))); (case aF => exact (fun _ _ => trivial)); (case aO => exact (by (with_reducible repeat (first | apply Kd.R_alloc | apply Kd.R_drewN | apply Kd.R_drew)); exact HO8.out)); (case aS => exact (below_size (by repeat (first | (with_reducible first | exact HB.out | apply below_alloc | apply pw_below_drewN | apply below_drew1) | exact HB.out)))); (case aL => have := LMc7.out; first | omega | (simp only [lit_size, List.size_toArray, List.length_cons, List.length_nil]; omega)); intro v10 w15 ho hb hg hat; rw [← Ny9.out] at ho; have n0_ := Aside0.mk (hb); have n1_ := Aside0.mk (ho); clear HB; clear HO8; have HB := n0_; have HO11 := n1_; clear n0_ n1_; clear ho hb hg hat; obtain ⟨Ao16, co16, eo16⟩ := Kd.R_slice HO11.out; subst eo16) | ((with_reducible refine gate_callee (f := 23) rfl ?_); refine goesL_ (some 31) rfl rfl Tryz.func23 (by kernel_rfl) rfl #[.slice Ao16 y9.length co16] rfl (by (try simp only [List.map_toArray, List.map_cons, List.map_nil]); first | done | rfl | (simp only [List.length_drop, List.length_take]; rfl)) ?_; (with_reducible refine (code_Valid.calls k _ _ y9 true _ ?side1 ?side2 A8.out).mono ?_); (case side1 => repeat (first | exact (Kd.R_reads' HO11.out).2.2 | (with_reducible refine Kd.C_alloc ?_ _) | (with_reducible refine Kd.C_drewN ?_ _) | (with_reducible refine Kd.C_drew ?_))); (case side2 => exact (Kd.R_reads' HO11.out).2.1); rintro e w17 ⟨rfl, hb⟩; refine ⟨_, rfl, ?_⟩; have n0_ := Aside0.mk (Kd.R_below (by (with_reducible repeat (first | apply Kd.R_alloc | apply Kd.R_drewN | apply Kd.R_drew)); exact HO11.out) hb); have n1_ := Aside0.mk (below_step (by repeat (first | (with_reducible first | exact HB.out | apply below_alloc | apply pw_below_drewN | apply below_drew1) | exact HB.out)) hb); clear HO11; clear HB; have HO11 := n0_; have HB := n1_; clear n0_ n1_; (try clear hb); (try clear hb2); (try clear hk); (try clear hi)) | ((with_reducible refine gate_callee (f := 31) rfl ?_); refine goesL_ (some 34) rfl rfl Tryz.func31 (by kernel_rfl) rfl #[.slice Ao16 y9.length co16] rfl (by (try simp only [List.map_toArray, List.map_cons, List.map_nil]); first | done | rfl | (simp only [List.length_drop, List.length_take]; rfl)) ?_; (with_reducible refine (know_Know.calls k (fun k_ => some k_ = (.slice Ao16 y9.length co16 : Value).ownBlock) _ _ y9 t13 t16 _ ?side1 A10.out).mono ?_); (case side1 => exact Kd.R_V (Kd.R_tight rfl (HO11.out))); rintro e w18 ⟨v14, rfl, ho0, hb⟩; refine ⟨_, rfl, ?_⟩; have n0_ := Aside0.mk (Kd.R_elder' (by (with_reducible repeat (first | apply Kd.R_alloc | apply Kd.R_drewN | apply Kd.R_drew)); exact HO11.out) (Kd.R_base ho0) hb); have n1_ := Aside0.mk (Kd.R_lower (Kd.R_new' (Kd.R_mono (ok' := fun k_ => True) ho0 (fun _ hk_ => trivial)) (Kd.R_lt (by (with_reducible repeat (first | apply Kd.R_alloc | apply Kd.R_drewN | apply Kd.R_drew)); exact HO11.out))) (below_size (by repeat (first | (with_reducible first | exact HB.out | apply below_alloc | apply pw_below_drewN | apply below_drew1) | exact HB.out)))); have n2_ := Aside0.mk (below_step (by repeat (first | (with_reducible first | exact HB.out | apply below_alloc | apply pw_below_drewN | apply below_drew1) | exact HB.out)) hb); clear HO11; clear HB; have HO11 := n0_; have HO15 := n1_; have HB := n2_; clear n0_ n1_ n2_; (try clear hb); (try clear hb2); (try clear hk); (try clear hi); (try clear ho0)))
      go_ret2
      exact ⟨_, by first | rfl | (simp [errW_none, errW_some] <;> rfl) | (simp [*, errW_none, errW_some] <;> rfl), by (with_reducible repeat (first | apply Kd.R_alloc | apply Kd.R_drewN | apply Kd.R_drew)); exact Kd.R_mono HO15.out (fun _ hk => trivial), by repeat (first | (with_reducible first | exact HB.out | apply below_alloc | apply pw_below_drewN | apply below_drew1) | exact HB.out)⟩
     ·replace c9 := Bool.eq_false_iff.mpr c9
      subst c9
      have H1 : (some (([] : List (S52)), 3)) = some (r1, r2) := by rw [if_neg (show ¬ (false = true) by decide)] at H; exact H
      clear H
      have H := H1
      clear H1
      simp only [Option.some.injEq, Prod.mk.injEq] at H
      obtain ⟨rfl, rfl⟩ := H
      go_enter Tryz.func20, Tryz.ntmps20
      go_wp2_with (first | ((with_reducible refine gate_callee (f := 30) rfl ?_); refine goesL_ (some 9) rfl rfl Tryz.func30 (by kernel_rfl) rfl #[.slice A0 l0.length c0] rfl (by (try simp only [List.map_toArray, List.map_cons, List.map_nil]); first | done | rfl | (simp only [List.length_drop, List.length_take]; rfl)) ?_; (with_reducible refine (code_Regs.calls k _ _ l0 t1 t2 _ ?side1 ?side2 A2.out).mono ?_); (case side1 => repeat (first | exact HR0.out | (with_reducible refine Kd.C_alloc ?_ _) | (with_reducible refine Kd.C_drewN ?_ _) | (with_reducible refine Kd.C_drew ?_))); (case side2 => exact HC0.out); rintro e w19 ⟨rfl, hb⟩; refine ⟨_, rfl, ?_⟩; have n0_ := Aside0.mk (below_step (by repeat (first | (with_reducible first | exact HB.out | apply below_alloc | apply pw_below_drewN | apply below_drew1) | exact HB.out)) hb); clear HB; have HB := n0_; clear n0_; (try clear hb); (try clear hb2); (try clear hk); (try clear hi)) | ((with_reducible refine gate_dst (N := 22) rfl ?_); refine Kd.R_lit k52 _ 52 ?hg (N := 22) ?hd (xs := ([(⟨3, t1, 0, 0, (⟨#[]⟩ : ByteArray)⟩ : S52), (⟨4, 0, 0, 0, (⟨#[]⟩ : ByteArray)⟩ : S52)] : List (S52))) (inner := [.int .i64 3, .int .i64 t1, .int .i64 0, .int .i64 0, .string (⟨#[]⟩ : ByteArray), .int .i64 4, .int .i64 0, .int .i64 0, .int .i64 0, .string (⟨#[]⟩ : ByteArray)]) (ok := fun _ => True) (okp := fun _ => True) ?hr ?hp (fun _ hk => hk) trivial (Below.refl _ _) (Nat.le_refl _) (by simp) ?_; (case hd => rfl); (case hg => rfl); (case hr => first | (go_simp; done) | (go_simp; rfl)); (case hp => exact (Reps.c5 (show Kd.M k52 _ _ _ (⟨3, t1, 0, 0, (⟨#[]⟩ : ByteArray)⟩ : S52) [.int .i64 3, .int .i64 t1, .int .i64 0, .int .i64 0, .string (⟨#[]⟩ : ByteArray)] from (k52_mkM _ _ _ (⟨3, t1, 0, 0, (⟨#[]⟩ : ByteArray)⟩ : S52) )) (Reps.c5 (show Kd.M k52 _ _ _ (⟨4, 0, 0, 0, (⟨#[]⟩ : ByteArray)⟩ : S52) [.int .i64 4, .int .i64 0, .int .i64 0, .int .i64 0, .string (⟨#[]⟩ : ByteArray)] from (k52_mkM _ _ _ (⟨4, 0, 0, 0, (⟨#[]⟩ : ByteArray)⟩ : S52) )) (Reps.none _ _)))); intro v4 w20 ho21 hb hg_ hnew_; clear hg_ hnew_; (first | rw [← Ny3.out] at ho21 | (simp only [Int.reduceToNat] at ho21; rw [← Ny3.out] at ho21)); have n0_ := Aside0.mk (Kd.R_lower ho21 (below_size (by repeat (first | (with_reducible first | exact HB.out | apply below_alloc | apply pw_below_drewN | apply below_drew1) | exact HB.out)))); have n1_ := Aside0.mk (below_step (by repeat (first | (with_reducible first | exact HB.out | apply below_alloc | apply pw_below_drewN | apply below_drew1) | exact HB.out)) hb); clear HB; have HO5 := n0_; have HB := n1_; clear n0_ n1_; clear hb ho21) | ((with_reducible refine gate_builtin (b := .append) (xs := #[.tmp 22, .tmp 23]) rfl ?_); at_builtin; refine Kd.R_append_rows k52 (w0 := w) w.heap.size rfl (.tmp 22) (.tmp 23) 29 52 (.agg #[(.int .i64 0), (.int .i64 0), (.int .i64 0), (.int .i64 0), (.string ⟨#[]⟩)]) 48 rfl Tryz.underlying29 info52 rfl (by decide) (by omega) v4 y3 l0 _ _ _ (fun _ => True) (fun _ => False) rfl rfl ?aO ?aR (fun _ _ h => h) (fun _ h => h.elim) ?aF ?aB ?aS ?aL ?_; (case aR => repeat (first | exact (Kd.C_below HR0.out HB.out) | (with_reducible refine Kd.C_alloc ?_ _) | (with_reducible refine Kd.C_drewN ?_ _) | (with_reducible refine Kd.C_drew ?_))); (case aB => exact (by repeat (first | (with_reducible first | exact HB.out | apply below_alloc | apply pw_below_drewN | apply below_drew1) | exact HB.out))); (case aF => exact (fun _ _ => trivial)); (case aO => exact (by (with_reducible repeat (first | apply Kd.R_alloc | apply Kd.R_drewN | apply Kd.R_drew)); exact HO5.out)); (case aS => exact (below_size (by repeat (first | (with_reducible first | exact HB.out | apply below_alloc | apply pw_below_drewN | apply below_drew1) | exact HB.out)))); (case aL => have := LMc6.out; first | omega | (simp only [lit_size, List.size_toArray, List.length_cons, List.length_nil]; omega)); intro v7 w22 ho hb hg hat; rw [← Ny6.out] at ho; have n0_ := Aside0.mk (hb); have n1_ := Aside0.mk (ho); clear HB; clear HO5; have HB := n0_; have HO8 := n1_; clear n0_ n1_; clear ho hb hg hat) | ((with_reducible refine gate_builtin (b := .append) (xs := #[.tmp 25, .tmp 28]) rfl ?_); at_builtin; refine Kd.R_append k52 (w0 := w) w.heap.size rfl (.tmp 25) (.tmp 28) 29 52 (.agg #[(.int .i64 0), (.int .i64 0), (.int .i64 0), (.int .i64 0), (.string ⟨#[]⟩)]) 48 rfl Tryz.underlying29 info52 rfl (by decide) (by omega) v7 y6 (⟨2, 0, t1, 0, (⟨#[]⟩ : ByteArray)⟩ : S52) [.int .i64 2, .int .i64 0, .int .i64 t1, .int .i64 0, .string (⟨#[]⟩ : ByteArray)] (fun _ => True) (fun _ => False) rfl rfl ?aP (fun _ hk => hk.elim) ?aF ?aO ?aB ?aS ?aL ?_; (case aP => exact k52_mkM _ _ _ (⟨2, 0, t1, 0, (⟨#[]⟩ : ByteArray)⟩ : S52)); (case aB => exact (by repeat (first | (with_reducible first | exact HB.out | apply below_alloc | apply pw_below_drewN | apply below_drew1) | exact HB.out))); (case aF => exact (fun _ _ => trivial)); (case aO => exact (by (with_reducible repeat (first | apply Kd.R_alloc | apply Kd.R_drewN | apply Kd.R_drew)); exact HO8.out)); (case aS => exact (below_size (by repeat (first | (with_reducible first | exact HB.out | apply below_alloc | apply pw_below_drewN | apply below_drew1) | exact HB.out)))); (case aL => have := LMc7.out; first | omega | (simp only [lit_size, List.size_toArray, List.length_cons, List.length_nil]; omega)); intro v10 w23 ho hb hg hat; rw [← Ny9.out] at ho; have n0_ := Aside0.mk (hb); have n1_ := Aside0.mk (ho); clear HB; clear HO8; have HB := n0_; have HO11 := n1_; clear n0_ n1_; clear ho hb hg hat; obtain ⟨Ao24, co24, eo24⟩ := Kd.R_slice HO11.out; subst eo24) | ((with_reducible refine gate_callee (f := 23) rfl ?_); refine goesL_ (some 31) rfl rfl Tryz.func23 (by kernel_rfl) rfl #[.slice Ao24 y9.length co24] rfl (by (try simp only [List.map_toArray, List.map_cons, List.map_nil]); first | done | rfl | (simp only [List.length_drop, List.length_take]; rfl)) ?_; (with_reducible refine (code_Valid.calls k _ _ y9 false _ ?side1 ?side2 A8.out).mono ?_); (case side1 => repeat (first | exact (Kd.R_reads' HO11.out).2.2 | (with_reducible refine Kd.C_alloc ?_ _) | (with_reducible refine Kd.C_drewN ?_ _) | (with_reducible refine Kd.C_drew ?_))); (case side2 => exact (Kd.R_reads' HO11.out).2.1); rintro e w25 ⟨rfl, hb⟩; refine ⟨_, rfl, ?_⟩; have n0_ := Aside0.mk (Kd.R_below (by (with_reducible repeat (first | apply Kd.R_alloc | apply Kd.R_drewN | apply Kd.R_drew)); exact HO11.out) hb); have n1_ := Aside0.mk (below_step (by repeat (first | (with_reducible first | exact HB.out | apply below_alloc | apply pw_below_drewN | apply below_drew1) | exact HB.out)) hb); clear HO11; clear HB; have HO11 := n0_; have HB := n1_; clear n0_ n1_; (try clear hb); (try clear hb2); (try clear hk); (try clear hi)))
      go_ret2
      exact ⟨_, by first | rfl | (simp [errW_none, errW_some] <;> rfl) | (simp [*, errW_none, errW_some] <;> rfl), by first | exact Kd.R_nil _ _ _ _ _ | exact Kd.N_nil _ _ _ _ _ | exact Kd.V_nil _ _ _ _ _ | exact Kd.Q_nil _ _ _ _ _ | exact Kd.S_nil _ _ _ _ _, by repeat (first | (with_reducible first | exact HB.out | apply below_alloc | apply pw_below_drewN | apply below_drew1) | exact HB.out)⟩
    ·rw [if_neg c7] at H
     exact absurd H (by simp)
   ·rw [if_neg c6] at H
    exact absurd H (by simp)
 ·rw [if_neg c3] at H
  have c3b0 : (t2 == 0) = false := beq_eq_false_iff_ne.mpr c3
  have c3b1 : (t2 != 0) = true := bne_iff_ne.mpr c3
  simp only [Option.some.injEq, Prod.mk.injEq] at H
  obtain ⟨rfl, rfl⟩ := H
  go_enter Tryz.func20, Tryz.ntmps20
  go_wp2_with (first | ((with_reducible refine gate_callee (f := 30) rfl ?_); refine goesL_ (some 9) rfl rfl Tryz.func30 (by kernel_rfl) rfl #[.slice A0 l0.length c0] rfl (by (try simp only [List.map_toArray, List.map_cons, List.map_nil]); first | done | rfl | (simp only [List.length_drop, List.length_take]; rfl)) ?_; (with_reducible refine (code_Regs.calls k _ _ l0 t1 t2 _ ?side1 ?side2 A2.out).mono ?_); (case side1 => repeat (first | exact HR0.out | (with_reducible refine Kd.C_alloc ?_ _) | (with_reducible refine Kd.C_drewN ?_ _) | (with_reducible refine Kd.C_drew ?_))); (case side2 => exact HC0.out); rintro e w26 ⟨rfl, hb⟩; refine ⟨_, rfl, ?_⟩; have n0_ := Aside0.mk (below_step (by repeat (first | (with_reducible first | exact HB.out | apply below_alloc | apply pw_below_drewN | apply below_drew1) | exact HB.out)) hb); clear HB; have HB := n0_; clear n0_; (try clear hb); (try clear hb2); (try clear hk); (try clear hi)))
  go_ret2
  exact ⟨_, by first | rfl | (simp [errW_none, errW_some] <;> rfl) | (simp [*, errW_none, errW_some] <;> rfl), by first | exact Kd.R_nil _ _ _ _ _ | exact Kd.N_nil _ _ _ _ _ | exact Kd.V_nil _ _ _ _ _ | exact Kd.Q_nil _ _ _ _ _ | exact Kd.S_nil _ _ _ _ _, by repeat (first | (with_reducible first | exact HB.out | apply below_alloc | apply pw_below_drewN | apply below_drew1) | exact HB.out)⟩
end Go.Proofs.YtpnmmpfidiegcaaGreatDoor.C
end
section
namespace Go.Proofs.YtpnmmpfidiegcaaGreatDoor.Plain
open Go.Proofs.YtpnmmpfidiegcaaGreatDoor.C
open Go.RowKit Go.Proofs.YtpnmmpfidiegcaaGreatDoorW.PrintWords Go.Proofs.YtpnmmpfidiegcaaGreatDoorW.PrintLast Go.Proofs.YtpnmmpfidiegcaaGreatDoorW.PrintMore
set_option linter.unusedVariables false
set_option linter.unusedSimpArgs false
def bearQ (w : Nat) (p : List Ins) : List Ins := [⟨3, (w : Int), 0, 0, ⟨#[]⟩⟩, ⟨4, 0, 0, 0, ⟨#[]⟩⟩] ++ p ++ [⟨2, 0, (w : Int), 0, ⟨#[]⟩⟩]
theorem bearQ_length (w : Nat) (p : List Ins) : (bearQ w p).length = p.length + 3 := by unfold bearQ; simp
theorem vi_bearQ {w : Nat} {p : List Ins} (hw : w < 32) (h : VI p) : VI (bearQ w p) := by
  unfold bearQ
  have hr : Reg (w : Int) := ⟨by omega, by omega⟩
  have h0 : Reg 0 := ⟨by decide, by decide⟩
  refine vi_append (vi_append (fun j hj => ?_) h) (fun j hj => ?_)
  · match j, hj with
    | 0, _ => exact .inr (.inl ⟨.inr (.inl rfl), hr, h0, rfl, rfl⟩)
    | 1, _ => exact .inr (.inl ⟨.inr (.inr rfl), h0, h0, rfl, rfl⟩)
  · match j, hj with
    | 0, _ => exact .inr (.inr (.inl ⟨rfl, h0, hr, h0, rfl⟩))
theorem ringBearer_is {p : List Ins} (hp : OKP p) {w : Nat} (h31 : w ≤ 31) (k : Nat) (hw : code_Regs.f k p = some ((w : Int), 0)) : ring_Bearer.f k p = (code_Valid.f k (bearQ w p)).bind fun t12 => if t12 = true then (know_Know.f k (bearQ w p)).bind fun bt13 => some (bt13.1, bt13.2) else some ([], 3) := by
  have h4 := hp.1
  unfold ring_Bearer.f
  rw [hw, Option.bind_some, if_pos rfl, if_neg (by omega), Option.bind_some, if_pos (by simp; omega), Option.bind_some, if_pos (by simp; omega), Option.bind_some]
  rfl
theorem runM_at {q : List Ins} {m : Nat} {x : Tr} {a : Int} {r : Rg} (h : Goes q m 0 (init x) a r) (k : Nat) :
    runM q x (m + k) = if (after q k a r).2.2.2 = true then (if (after q k a r).1 = (q.length : Int) then ((after q k a r).2.1 0, (after q k a r).2.2.1 + m, 0) else (.nil, 0, 7)) else (.nil, 0, 3) := by
  unfold runM
  simp only
  rw [h k]
theorem codeT_madeK {q : List Ins} (h : OKP (knowHead ++ q)) : codeT (madeK q) = cellT (codeT (knowHead ++ q)) (codeT (knowHead ++ q)) := by
  unfold madeK
  rw [codeT_spec, bl_bs, dec_codeL h]
theorem madeK_run {q : List Ins} (hq : OKP q) (h : OKP (knowHead ++ q)) (x : Tr) (hz : 1 + (codeT (madeK q)).size + x.size ≤ 2000000) (k : Nat) :
    runM (madeK q) x (19 + k) = ((runM q (.cons (codeT (madeK q)) x) k).1, if (runM q (.cons (codeT (madeK q)) x) k).2.2 = 0 then (runM q (.cons (codeT (madeK q)) x) k).2.1 + 19 else 0, (runM q (.cons (codeT (madeK q)) x) k).2.2) := by
  have hm := codeT_madeK h
  rw [hm] at hz ⊢
  have e : madeK q = (specHead (bs (codeL (knowHead ++ q))) ++ knowHead) ++ q := by unfold madeK; rw [List.append_assoc]
  rw [e]
  refine run_behind (pre := specHead (bs (codeL (knowHead ++ q))) ++ knowHead) (p := q) (m := 19) (fun i hi => ?_) ?_ k
  · have := (okp_iff.1 hq).2.2 i hi
    rw [List.getD_eq_getElem?_getD, List.getElem?_eq_getElem hi]
    exact this
  · refine know_prefix (y := bs (codeL (knowHead ++ q))) (fun i hi => ?_) ?_ (codeT (knowHead ++ q)) (by rw [bl_bs, dec_codeL h]) x hz
    · rw [List.getD_eq_getElem?_getD, List.getElem?_append_left (by simp [specHead, knowHead]; omega), ← List.getD_eq_getElem?_getD]
    · simp [specHead, knowHead]
theorem far_of {w : Nat} (hw : 1 ≤ w) {x : Ins} (h : Under ((w : Int) - 1) x) : Far x w := by
  obtain ⟨h1, h2⟩ := h
  by_cases h5 : x.f0 = 5
  · exact .inr ⟨h5, by omega⟩
  · obtain ⟨h3, h4⟩ := h2 h5
    exact .inl ⟨by omega, by omega, by omega⟩
theorem after_le (p : List Ins) : ∀ (k : Nat) (a : Int) (r : Rg), (after p k a r).2.2.1 ≤ k
  | 0, _, _ => Nat.le_refl _
  | k + 1, a, r => by
    rw [after]
    split
    · exact Nat.zero_le _
    · split
      · exact Nat.zero_le _
      · rename_i q _
        have := after_le p k (a + q.1) q.2
        show (after p k (a + q.1) q.2).2.2.1 + 1 ≤ k + 1
        omega
theorem bear_begin {w : Nat} (hw : 1 ≤ w) (p : List Ins) (C x : Tr) : Goes (bearQ w p) 2 0 (init (.cons C x)) 2 (upd (init x) w C) := by
  have hl := bearQ_length w p
  rw [show (2 : Nat) = 0 + 1 + 1 from rfl]
  refine go1 ⟨3, (w : Int), 0, 0, ⟨#[]⟩⟩ (by omega) rfl (ex_head w 0 _) (a1 := 1) rfl ?_
  refine go1 ⟨4, 0, 0, 0, ⟨#[]⟩⟩ (by omega) rfl (ex_tail 0 0 _) (a1 := 2) rfl ?_
  rw [show ((0 : Int).toNat) = 0 from rfl, show ((w : Int).toNat) = w from Int.toNat_natCast w, up_far _ _ _ _ _ (show 0 ≠ w by omega), up_init, up_get _ _ _ _ (show 0 ≠ w by omega)]
  exact Goes.refl _ _ _
theorem bear_run {p : List Ins} (hp : OKP p) {w : Nat} (hw : 1 ≤ w) (hu : ∀ x ∈ p, Under ((w : Int) - 1) x) (C x : Tr) (k : Nat) :
    ((runM p x k).2.2 = 0 → 2000000 < 1 + C.size + (runM p x k).1.size → (runM (bearQ w p) (.cons C x) (k + 3)).2.2 = 3) ∧
    ((runM p x k).2.2 = 0 → 1 + C.size + (runM p x k).1.size ≤ 2000000 → runM (bearQ w p) (.cons C x) (k + 3) = (.cons C (runM p x k).1, (runM p x k).2.1 + 3, 0)) ∧
    ((runM p x k).2.2 = 3 → (runM (bearQ w p) (.cons C x) (k + 3)).2.2 = 3) ∧ ((runM p x k).2.2 = 7 → (runM (bearQ w p) (.cons C x) (k + 3)).2.2 ≠ 0) := by
  have hl := bearQ_length w p
  have hR : ∀ j, j < p.length → Right (p.getD j zz) j p.length := fun i hi => by
    have := (okp_iff.1 hp).2.2 i hi
    rw [List.getD_eq_getElem?_getD, List.getElem?_eq_getElem hi]
    exact this
  obtain ⟨g, i0, i1, i2, i3⟩ := inside [⟨3, (w : Int), 0, 0, ⟨#[]⟩⟩, ⟨4, 0, 0, 0, ⟨#[]⟩⟩] p [⟨2, 0, (w : Int), 0, ⟨#[]⟩⟩] w C (fun x hx => far_of hw (hu x hx)) hR k 0 (init x) (Int.le_refl _) (by omega)
  have hn := after_le p k 0 (init x)
  have gq : Goes (bearQ w p) (2 + (after p k 0 (init x)).2.2.1) 0 (init (.cons C x)) (2 + (after p k 0 (init x)).1) (upd (after p k 0 (init x)).2.1 w C) := (bear_begin hw p C x).trans g
  clear g
  have hr : runM p x k = if (after p k 0 (init x)).2.2.2 = true then (if (after p k 0 (init x)).1 = (p.length : Int) then ((after p k 0 (init x)).2.1 0, (after p k 0 (init x)).2.2.1, 0) else (.nil, 0, 7)) else (.nil, 0, 3) := rfl
  have h1 : after p 1 (after p k 0 (init x)).1 (after p k 0 (init x)).2.1 = after p 1 (after p k 0 (init x)).1 (after p k 0 (init x)).2.1 := rfl
  have hone := (after_behind [] p hR 1 (after p k 0 (init x)).1 (after p k 0 (init x)).2.1 i0 i1).2
  clear h1
  generalize hs : after p k 0 (init x) = s at *
  obtain ⟨a, r, n, ok⟩ := s
  dsimp only at *
  have hat : ∀ j : Nat, a = (j : Int) → j < p.length → (bearQ w p).getD (2 + a).toNat zz = p.getD j zz := fun j e hj => by
    subst e
    unfold bearQ
    rw [show (2 + (j : Int)).toNat = 2 + j from by omega, List.getD_eq_getElem?_getD, List.getElem?_append_left (by simp; omega), List.getElem?_append_right (by simp), List.getD_eq_getElem?_getD]
    simp
  cases ok with
  | false =>
    obtain ⟨j1, j2, j3⟩ := i3 rfl
    obtain ⟨j, rfl⟩ := Int.eq_ofNat_of_zero_le i0
    rw [if_neg (by decide)] at hr
    have he : exec ((bearQ w p).getD (2 + (j : Int)).toNat zz) (upd r w C) = none := by
      rw [hat j rfl (by omega), exec_far _ w C (far_of hw (hu _ (by rw [List.getD_eq_getElem?_getD, List.getElem?_eq_getElem (by omega)]; exact List.getElem_mem (by omega))))]
      rw [Int.toNat_natCast] at j2
      rw [j2]
      rfl
    obtain ⟨f, hf⟩ : ∃ f, k + 3 = 2 + n + (f + 1) := ⟨k - n, by omega⟩
    have hq : runM (bearQ w p) (.cons C x) (k + 3) = (.nil, 0, 3) := by
      have hA : after (bearQ w p) (f + 1) (2 + (j : Int)) (upd r w C) = (2 + (j : Int), upd r w C, 0, false) := by rw [after, if_neg (by rw [hl]; omega), he]
      rw [hf, runM_at gq, hA]
      rfl
    rw [hr, hq]
    exact ⟨fun h => (by cases h), fun h => (by cases h), fun _ => rfl, fun h => (by cases h)⟩
  | true =>
    rw [if_pos rfl] at hr
    by_cases hend : a = (p.length : Int)
    · subst hend
      rw [if_pos rfl] at hr
      have hx : (bearQ w p).getD (2 + (p.length : Int)).toNat zz = ⟨2, 0, (w : Int), 0, ⟨#[]⟩⟩ := by
        unfold bearQ
        rw [show (2 + (p.length : Int)).toNat = p.length + 2 from by omega, List.getD_eq_getElem?_getD, List.getElem?_append_right (by simp)]
        simp
      have hw0 : upd r w C w = C := by unfold upd; rw [if_pos rfl]
      have h00 : upd r w C 0 = r 0 := up_get _ _ _ _ (by omega)
      obtain ⟨f, hf⟩ : ∃ f, k + 3 = 2 + n + (f + 1) := ⟨k - n, by omega⟩
      by_cases hbig : 2000000 < 1 + C.size + (r 0).size
      · have he : exec ⟨2, 0, (w : Int), 0, ⟨#[]⟩⟩ (upd r w C) = none := by
          show (if 2000000 < 1 + (upd r w C (w : Int).toNat).size + (upd r w C (0 : Int).toNat).size then none else _) = none
          rw [Int.toNat_natCast, hw0, show (0 : Int).toNat = 0 from rfl, h00, if_pos hbig]
        have hq : runM (bearQ w p) (.cons C x) (k + 3) = (.nil, 0, 3) := by
          have hA : after (bearQ w p) (f + 1) (2 + (p.length : Int)) (upd r w C) = (2 + (p.length : Int), upd r w C, 0, false) := by rw [after, if_neg (by rw [hl]; omega), hx, he]
          rw [hf, runM_at gq, hA]
          rfl
        rw [hr, hq]
        exact ⟨fun _ _ => rfl, fun _ (h : 1 + C.size + (r 0).size ≤ 2000000) => absurd hbig (by omega), fun h => (by cases h), fun h => (by cases h)⟩
      · have he : exec ⟨2, 0, (w : Int), 0, ⟨#[]⟩⟩ (upd r w C) = some (1, upd (upd r w C) 0 (.cons C (r 0))) := by
          rw [ex_cons 0 w 0 _ (by rw [Int.toNat_natCast, hw0, show (0 : Int).toNat = 0 from rfl, h00]; omega), Int.toNat_natCast, hw0, show (0 : Int).toNat = 0 from rfl, h00]
        have hstop : ∀ f r', after (bearQ w p) f (2 + (p.length : Int) + 1) r' = (2 + (p.length : Int) + 1, r', 0, true) := fun f r' => by
          cases f with
          | zero => rfl
          | succ f => rw [after, if_pos (by rw [hl]; omega)]
        have hq : runM (bearQ w p) (.cons C x) (k + 3) = (.cons C (r 0), n + 3, 0) := by
          have hA : after (bearQ w p) (f + 1) (2 + (p.length : Int)) (upd r w C) = (2 + (p.length : Int) + 1, upd (upd r w C) 0 (Tr.cons C (r 0)), 0 + 1, true) := by
            rw [after, if_neg (by rw [hl]; omega), hx, he]
            simp only [hstop]
          rw [hf, runM_at gq, hA, if_pos rfl, if_pos (by rw [hl]; show 2 + (p.length : Int) + 1 = _; omega)]
          show (upd (upd r w C) 0 (Tr.cons C (r 0)) 0, 0 + 1 + (2 + n), (0 : Int)) = _
          have : upd (upd r w C) 0 (Tr.cons C (r 0)) 0 = Tr.cons C (r 0) := by unfold upd; rw [if_pos rfl]
          rw [this, show 0 + 1 + (2 + n) = n + 3 from by omega]
        rw [hr, hq]
        exact ⟨fun _ h => absurd h hbig, fun _ _ => rfl, fun h => (by cases h), fun h => (by cases h)⟩
    · rw [if_neg hend] at hr
      have hnk : n = k := (i2 rfl).resolve_left hend
      subst hnk
      obtain ⟨j, rfl⟩ := Int.eq_ofNat_of_zero_le i0
      have hq : (runM (bearQ w p) (.cons C x) (n + 3)).2.2 ≠ 0 := by
        have hfar := exec_far _ w C (far_of hw (hu (p.getD j zz) (by rw [List.getD_eq_getElem?_getD, List.getElem?_eq_getElem (by omega)]; exact List.getElem_mem (by omega)))) r
        rw [show n + 3 = 2 + n + (0 + 1) from by omega, runM_at gq]
        rw [after, if_neg hend, Int.toNat_natCast] at hone
        cases he : exec (p.getD j zz) r with
        | none =>
          rw [he] at hfar
          have hA : after (bearQ w p) (0 + 1) (2 + (j : Int)) (upd r w C) = (2 + (j : Int), upd r w C, 0, false) := by rw [after, if_neg (by rw [hl]; omega), hat j rfl (by omega), hfar]; rfl
          rw [hA, if_neg (fun h => by cases h)]
          decide
        | some v =>
          rw [he] at hone hfar
          have hA : after (bearQ w p) (0 + 1) (2 + (j : Int)) (upd r w C) = (2 + (j : Int) + v.1, upd v.2 w C, 0 + 1, true) := by rw [after, if_neg (by rw [hl]; omega), hat j rfl (by omega), hfar]; rfl
          have h2 : (j : Int) + v.1 ≤ (p.length : Int) := hone.2
          rw [hA, if_pos rfl, if_neg (by rw [hl]; show ¬ (2 + (j : Int) + v.1 = _); omega)]
          decide
      rw [hr]
      exact ⟨fun h => (by cases h), fun h => (by cases h), fun h => (by cases h), fun _ => hq⟩
theorem bears_run {p : List Ins} (hp : OKP p) {w : Nat} (hw : 1 ≤ w) (hu : ∀ x ∈ p, Under ((w : Int) - 1) x) (hf : OKP (bearQ w p) ∧ FineK (bearQ w p)) (x : Tr) (hz : 1 + (codeT (madeK (bearQ w p))).size + x.size ≤ 2000000) (k : Nat) :
    ((runM p x k).2.2 = 0 → 2000000 < 1 + (codeT (madeK (bearQ w p))).size + (runM p x k).1.size → (runM (madeK (bearQ w p)) x (k + 22)).2.2 = 3) ∧
    ((runM p x k).2.2 = 0 → 1 + (codeT (madeK (bearQ w p))).size + (runM p x k).1.size ≤ 2000000 → runM (madeK (bearQ w p)) x (k + 22) = (.cons (codeT (madeK (bearQ w p))) (runM p x k).1, (runM p x k).2.1 + 22, 0)) ∧
    ((runM p x k).2.2 = 3 → (runM (madeK (bearQ w p)) x (k + 22)).2.2 = 3) ∧ ((runM p x k).2.2 = 7 → (runM (madeK (bearQ w p)) x (k + 22)).2.2 ≠ 0) := by
  have hm := madeK_run hf.1 hf.2.1.1 x hz (k + 3)
  rw [show 19 + (k + 3) = k + 22 from by omega] at hm
  obtain ⟨b1, b2, b3, b4⟩ := bear_run hp hw hu (codeT (madeK (bearQ w p))) x k
  rw [hm]
  refine ⟨b1, fun h0 hs => ?_, b3, b4⟩
  rw [b2 h0 hs]
  rfl
end Go.Proofs.YtpnmmpfidiegcaaGreatDoor.Plain
end
