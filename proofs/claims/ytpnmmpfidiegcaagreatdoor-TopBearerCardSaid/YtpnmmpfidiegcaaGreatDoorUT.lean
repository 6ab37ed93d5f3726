/- Texts of this claim, together: what the functions return, and what they say in plain words. -/
import Derived.Test.YtpnmmpfidiegcaaGreatDoorUB
import Derived.Test.YtpnmmpfidiegcaaGreatDoorUF
import Derived.Test.YtpnmmpfidiegcaaGreatDoorUI
section
namespace Go.Proofs.YtpnmmpfidiegcaaGreatDoor.C
open Go.RowKit Go.Proofs.YtpnmmpfidiegcaaGreatDoorW.PrintWords Go.Proofs.YtpnmmpfidiegcaaGreatDoorW.PrintLast Go.Proofs.YtpnmmpfidiegcaaGreatDoorW.PrintMore
attribute [local go_sem] max2_int min2_int max_two min_two max_three min_three max_four min_four
set_option linter.unusedVariables false
set_option linter.unusedSimpArgs false
def know_join.l0 : Nat → List (S52) → List (List (S52)) → Int → Int → Option ((List (S52)) × Bool)
 | 0, _, _, _, _ => none
 | k + 1, x4, x7, x8, x9 => if x9 < x8 then (if 0 ≤ x9 then (if x9 < (x7.length : Int) then (if x4.length + (rd_L6 x7 x9).length < 2932031007402 then (know_join.l0 k (x4 ++ (rd_L6 x7 x9)) x7 x8 (wrap64 (x9 + 1))) else (none)) else (none)) else (none)) else ((code_Valid.f k x4).bind fun t5 => (some (x4, t5)))
def know_join.f (k : Nat) (l0 : List (List (S52))) : Option ((List (S52)) × Bool) := know_join.l0 k ([] : List (S52)) l0 (l0.length : Int) 0
set_option maxHeartbeats 8000000 in
set_option maxRecDepth 100000 in
theorem know_join.calls (k : Nat) (A0 : Option Addr) (c0 : Nat) (l0 : List (List (S52))) (r1 : List (S52)) (r2 : Bool) (w : World) (hr0 : Kd.C (Kd.slice 52 k52) w A0 l0.length l0) (hc0 : l0.length ≤ c0) (h : know_join.f k l0 = some (r1, r2)) :
  Calls Tryz.prog 36 #[.slice A0 l0.length c0] w fun e w' => ∃ v0_ : Value, e = .returned (.tuple #[v0_, .bool r2]) ∧ Kd.R k52 52 w' w.heap.size (fun _ => True) v0_ r1 ∧ Below w.heap.size w w' := by
 have HR0 := Aside0.mk hr0
 have HC0 := Aside0.mk hc0
 clear hr0 hc0
 have HB := Aside0.mk (Below.refl w.heap.size w)
 have H : (know_join.l0 k ([] : List (S52)) l0 (l0.length : Int) 0) = some (r1, r2) := h
 clear h
 have H' := Aside0.mk H
 clear H
 go_enter Tryz.func36, Tryz.ntmps36
 go_wp2
 go_loopg [4, 9] k (fun kq v4 v9 w' => ∃ (x4_1 : List (S52)) (x9_1 : Int), v9 = .int .i64 x9_1 ∧ Aside0 (know_join.l0 kq x4_1 l0 (l0.length : Int) x9_1 = some (r1, r2)) ∧ Aside0 (kq ≤ k) ∧ Aside0 (Kd.R k52 52 w' w.heap.size (fun _ => True) v4 x4_1) ∧ Aside0 (Below w.heap.size w w'))
 case atStart => exact ⟨(([] : List (S52))), (0), (by first | rfl | (simp; done) | (simp [*]; done)), H', ⟨Nat.le_refl _⟩, ⟨by first | exact Kd.R_nil _ _ _ _ _ | exact Kd.N_nil _ _ _ _ _ | exact Kd.V_nil _ _ _ _ _ | exact Kd.Q_nil _ _ _ _ _ | exact Kd.S_nil _ _ _ _ _⟩, ⟨by repeat (first | (with_reducible first | exact HB.out | apply below_alloc | apply pw_below_drewN | apply below_drew1) | exact HB.out)⟩⟩
 case round =>
  clear H'
  obtain ⟨x4_1, x9_1, rfl, HA, HK1, HO_4, HB⟩ := hrel
  cases gk with
  | zero => exact absurd HA.out (by simp [know_join.l0])
  | succ k1 =>
   have H := HA.out
   clear HA
   simp only [know_join.l0] at H
   by_cases c2 : x9_1 < (l0.length : Int)
   ·rw [if_pos c2] at H
    have c2b0 : decide (x9_1 < (l0.length : Int)) = true := decide_eq_true c2
    clear c2
    by_cases c3 : 0 ≤ x9_1
    ·rw [if_pos c3] at H
     have c3b0 : decide (0 ≤ x9_1) = true := decide_eq_true c3
     clear c3
     by_cases c4 : x9_1 < (l0.length : Int)
     ·rw [if_pos c4] at H
      have c4b0 : decide (x9_1 < (l0.length : Int)) = true := decide_eq_true c4
      clear c4
      by_cases c5 : x4_1.length + (rd_L6 l0 x9_1).length < 2932031007402
      ·rw [if_pos c5] at H
       have LMc5 := Aside0.mk c5
       clear c5
       obtain ⟨y2, hy2⟩ : ∃ y_ : List (S52), y_ = (x4_1 ++ (rd_L6 l0 x9_1)) := ⟨_, rfl⟩
       replace H : (know_join.l0 k1 y2 l0 (l0.length : Int) (wrap64 (x9_1 + 1))) = some (r1, r2) := by first | (rw [hy2]; with_reducible exact H) | (have H2_ := (Option.bind_some _ _).symm.trans H; rw [hy2]; with_reducible exact H2_) | (have H2_ := (Option.bind_some _ _).symm.trans H; with_reducible exact H2_) | with_reducible exact H | (rw [hy2]; exact H) | exact H
       have Ny2 := Aside0.mk hy2
       clear hy2
       have H' := Aside0.mk H
       clear H
       have p1 : 0 ≤ (x9_1 : Int) := of_decide_eq_true (by first | (with_reducible assumption) | assumption)
       have q1 : x9_1 < (l0.length : Int) := of_decide_eq_true (by first | (with_reducible assumption) | assumption)
       obtain ⟨ad1, A1_0, c1_0, e1, hx1_0, hl1_0, hi1_0⟩ := at_L6 HR0.out x9_1 p1 q1
       cases e1
       replace hx1_0 := (HB.out.cell (World.block_lt_of_cell? w _ hx1_0)).trans hx1_0
       have HR1_0 := Aside0.mk hi1_0
       have HC1_0 := Aside0.mk hl1_0
       clear hi1_0 hl1_0
       replace p1 := eq_true p1
       replace q1 := eq_true q1
       go_wp2_with (first | ((with_reducible refine gate_builtin (b := .append) (xs := #[.tmp 13, .tmp 14]) rfl ?_); at_builtin; refine Kd.R_append_rows k52 (w0 := w) w.heap.size rfl (.tmp 13) (.tmp 14) 29 52 (.agg #[(.int .i64 0), (.int .i64 0), (.int .i64 0), (.int .i64 0), (.string ⟨#[]⟩)]) 48 rfl Tryz.underlying29 info52 rfl (by decide) (by omega) u4 x4_1 (rd_L6 l0 x9_1) _ _ _ (fun _ => True) (fun _ => False) rfl rfl ?aO ?aR (fun _ _ h => h) (fun _ h => h.elim) ?aF ?aB ?aS ?aL ?_; (case aR => repeat (first | exact (Kd.C_below HR1_0.out HB.out) | (with_reducible refine Kd.C_alloc ?_ _) | (with_reducible refine Kd.C_drewN ?_ _) | (with_reducible refine Kd.C_drew ?_))); (case aB => exact (by repeat (first | (with_reducible first | exact HB.out | apply below_alloc | apply pw_below_drewN | apply below_drew1) | exact HB.out))); (case aF => exact (fun _ _ => trivial)); (case aO => exact (by (with_reducible repeat (first | apply Kd.R_alloc | apply Kd.R_drewN | apply Kd.R_drew)); exact HO_4.out)); (case aS => exact (below_size (by repeat (first | (with_reducible first | exact HB.out | apply below_alloc | apply pw_below_drewN | apply below_drew1) | exact HB.out)))); (case aL => have := LMc5.out; first | omega | (simp only [lit_size, List.size_toArray, List.length_cons, List.length_nil]; omega)); intro v3 w6 ho hb hg hat; rw [← Ny2.out] at ho; have n0_ := Aside0.mk (hb); have n1_ := Aside0.mk (ho); clear HB; clear HO_4; have HB := n0_; have HO4 := n1_; clear n0_ n1_; clear ho hb hg hat))
       go_roundg k1
       case measure => have := HK1.out; omega
       case rel => exact ⟨(y2), (wrap64 (x9_1 + 1)), (by first | rfl | (simp; done) | (simp [*]; done)), H', ⟨by have := HK1.out; omega⟩, ⟨by (with_reducible repeat (first | apply Kd.R_alloc | apply Kd.R_drewN | apply Kd.R_drew)); exact HO4.out⟩, ⟨by repeat (first | (with_reducible first | exact HB.out | apply below_alloc | apply pw_below_drewN | apply below_drew1) | exact HB.out)⟩⟩
      ·rw [if_neg c5] at H
       exact absurd H (by simp)
     ·rw [if_neg c4] at H
      exact absurd H (by simp)
    ·rw [if_neg c3] at H
     exact absurd H (by simp)
   ·rw [if_neg c2] at H
    have c2b0 : decide (x9_1 < (l0.length : Int)) = false := decide_eq_false c2
    clear c2
    replace H := Option.bind_eq_some_iff.mp H
    obtain ⟨t5, A70, H⟩ := H
    replace H : (some (x4_1, t5)) = some (r1, r2) := H
    have A7 := Aside0.mk A70
    clear A70
    simp only [Option.some.injEq, Prod.mk.injEq] at H
    obtain ⟨rfl, rfl⟩ := H
    obtain ⟨Ao8, co8, eo8⟩ := Kd.R_slice HO_4.out
    subst eo8
    go_wp2_with (first | ((with_reducible refine gate_callee (f := 23) rfl ?_); refine goesL_ (some 19) rfl rfl Tryz.func23 (by kernel_rfl) rfl #[.slice Ao8 x4_1.length co8] rfl (by (try simp only [List.map_toArray, List.map_cons, List.map_nil]); first | done | rfl | (simp only [List.length_drop, List.length_take]; rfl)) ?_; (with_reducible refine (code_Valid.calls k1 _ _ x4_1 t5 _ ?side1 ?side2 A7.out).mono ?_); (case side1 => repeat (first | exact (Kd.R_reads' HO_4.out).2.2 | (with_reducible refine Kd.C_alloc ?_ _) | (with_reducible refine Kd.C_drewN ?_ _) | (with_reducible refine Kd.C_drew ?_))); (case side2 => exact (Kd.R_reads' HO_4.out).2.1); rintro e w9 ⟨rfl, hb⟩; refine ⟨_, rfl, ?_⟩; have n0_ := Aside0.mk (Kd.R_below (by (with_reducible repeat (first | apply Kd.R_alloc | apply Kd.R_drewN | apply Kd.R_drew)); exact HO_4.out) hb); have n1_ := Aside0.mk (below_step (by repeat (first | (with_reducible first | exact HB.out | apply below_alloc | apply pw_below_drewN | apply below_drew1) | exact HB.out)) hb); clear HO_4; clear HB; have HO_4 := n0_; have HB := n1_; clear n0_ n1_; (try clear hb); (try clear hb2); (try clear hk); (try clear hi)))
    go_ret2
    exact ⟨_, by first | rfl | (simp [errW_none, errW_some] <;> rfl) | (simp [*, errW_none, errW_some] <;> rfl), by (with_reducible repeat (first | apply Kd.R_alloc | apply Kd.R_drewN | apply Kd.R_drew)); exact HO_4.out, by repeat (first | (with_reducible first | exact HB.out | apply below_alloc | apply pw_below_drewN | apply below_drew1) | exact HB.out)⟩
end Go.Proofs.YtpnmmpfidiegcaaGreatDoor.C
end
section
namespace Go.Proofs.YtpnmmpfidiegcaaGreatDoor.C
open Go.RowKit Go.Proofs.YtpnmmpfidiegcaaGreatDoorW.PrintWords Go.Proofs.YtpnmmpfidiegcaaGreatDoorW.PrintLast Go.Proofs.YtpnmmpfidiegcaaGreatDoorW.PrintMore
attribute [local go_sem] max2_int min2_int max_two min_two max_three min_three max_four min_four
set_option linter.unusedVariables false
set_option linter.unusedSimpArgs false
def know_Clear.l0 : Nat → Int → List (S52) → Int → Option ((List (S52)))
 | 0, _, _, _ => none
 | k + 1, x1, x5, x6 => if x6 ≤ x1 then (if x5.length < 2932031007402 then (know_Clear.l0 k x1 (x5 ++ [(⟨0, x6, 0, 0, (⟨#[48]⟩ : ByteArray)⟩ : S52)]) (wrap64 (x6 + 1))) else (none)) else (some x5)
def know_Clear.f (k : Nat) (a0 : Int) (a1 : Int) : Option ((List (S52))) := know_Clear.l0 k a1 ([] : List (S52)) a0
set_option maxHeartbeats 8000000 in
set_option maxRecDepth 100000 in
theorem know_Clear.calls (k : Nat) (a0 : Int) (a1 : Int) (r : List (S52)) (w : World) (h : know_Clear.f k a0 a1 = some r) :
  Calls Tryz.prog 49 #[.int .i64 a0, .int .i64 a1] w fun e w' => ∃ v0_ : Value, e = .returned (v0_) ∧ Kd.R k52 52 w' w.heap.size (fun _ => True) v0_ r ∧ Below w.heap.size w w' := by
 have hu52 := Tryz.underlying52
 have HB := Aside0.mk (Below.refl w.heap.size w)
 have H : (know_Clear.l0 k a1 ([] : List (S52)) a0) = some r := h
 clear h
 have H' := Aside0.mk H
 clear H
 go_enter Tryz.func49, Tryz.ntmps49
 go_wp2
 go_loopg [5, 6] k (fun kq v5 v6 w' => ∃ (x5_1 : List (S52)) (x6_1 : Int), v6 = .int .i64 x6_1 ∧ Aside0 (know_Clear.l0 kq a1 x5_1 x6_1 = some r) ∧ Aside0 (kq ≤ k) ∧ Aside0 (Kd.R k52 52 w' w.heap.size (fun _ => True) v5 x5_1) ∧ Aside0 (Below w.heap.size w w'))
 case atStart => exact ⟨(([] : List (S52))), (a0), (by first | rfl | (simp; done) | (simp [*]; done)), H', ⟨Nat.le_refl _⟩, ⟨by first | exact Kd.R_nil _ _ _ _ _ | exact Kd.N_nil _ _ _ _ _ | exact Kd.V_nil _ _ _ _ _ | exact Kd.Q_nil _ _ _ _ _ | exact Kd.S_nil _ _ _ _ _⟩, ⟨by repeat (first | (with_reducible first | exact HB.out | apply below_alloc | apply pw_below_drewN | apply below_drew1) | exact HB.out)⟩⟩
 case round =>
  clear H'
  try clear p2
  obtain ⟨x5_1, x6_1, rfl, HA, HK1, HO_5, HB⟩ := hrel
  cases gk with
  | zero => exact absurd HA.out (by simp [know_Clear.l0])
  | succ k1 =>
   have H := HA.out
   clear HA
   simp only [know_Clear.l0] at H
   by_cases c3 : x6_1 ≤ a1
   ·rw [if_pos c3] at H
    have c3b0 : decide (x6_1 ≤ a1) = true := decide_eq_true c3
    clear c3
    by_cases c4 : x5_1.length < 2932031007402
    ·rw [if_pos c4] at H
     have LMc4 := Aside0.mk c4
     clear c4
     obtain ⟨y1, hy1⟩ : ∃ y_ : List (S52), y_ = (x5_1 ++ [(⟨0, x6_1, 0, 0, (⟨#[48]⟩ : ByteArray)⟩ : S52)]) := ⟨_, rfl⟩
     replace H : (know_Clear.l0 k1 a1 y1 (wrap64 (x6_1 + 1))) = some r := by first | (rw [hy1]; with_reducible exact H) | (have H2_ := (Option.bind_some _ _).symm.trans H; rw [hy1]; with_reducible exact H2_) | (have H2_ := (Option.bind_some _ _).symm.trans H; with_reducible exact H2_) | with_reducible exact H | (rw [hy1]; exact H) | exact H
     have Ny1 := Aside0.mk hy1
     clear hy1
     have H' := Aside0.mk H
     clear H
     go_wp2_with (first | ((with_reducible refine gate_builtin (b := .append) (xs := #[.tmp 13, .tmp 16]) rfl ?_); at_builtin; refine Kd.R_append k52 (w0 := w) w.heap.size rfl (.tmp 13) (.tmp 16) 29 52 (.agg #[(.int .i64 0), (.int .i64 0), (.int .i64 0), (.int .i64 0), (.string ⟨#[]⟩)]) 48 rfl Tryz.underlying29 info52 rfl (by decide) (by omega) u5 x5_1 (⟨0, x6_1, 0, 0, (⟨#[48]⟩ : ByteArray)⟩ : S52) [.int .i64 0, .int .i64 x6_1, .int .i64 0, .int .i64 0, .string (⟨#[48]⟩ : ByteArray)] (fun _ => True) (fun _ => False) rfl rfl ?aP (fun _ hk => hk.elim) ?aF ?aO ?aB ?aS ?aL ?_; (case aP => exact k52_mkM _ _ _ (⟨0, x6_1, 0, 0, (⟨#[48]⟩ : ByteArray)⟩ : S52)); (case aB => exact (by repeat (first | (with_reducible first | exact HB.out | apply below_alloc | apply pw_below_drewN | apply below_drew1) | exact HB.out))); (case aF => exact (fun _ _ => trivial)); (case aO => exact (by (with_reducible repeat (first | apply Kd.R_alloc | apply Kd.R_drewN | apply Kd.R_drew)); exact HO_5.out)); (case aS => exact (below_size (by repeat (first | (with_reducible first | exact HB.out | apply below_alloc | apply pw_below_drewN | apply below_drew1) | exact HB.out)))); (case aL => have := LMc4.out; first | omega | (simp only [lit_size, List.size_toArray, List.length_cons, List.length_nil]; omega)); intro v2 w5 ho hb hg hat; rw [← Ny1.out] at ho; have n0_ := Aside0.mk (hb); have n1_ := Aside0.mk (ho); clear HB; clear HO_5; have HB := n0_; have HO3 := n1_; clear n0_ n1_; clear ho hb hg hat))
     go_roundg k1
     case measure => have := HK1.out; omega
     case rel => exact ⟨(y1), (wrap64 (x6_1 + 1)), (by first | rfl | (simp; done) | (simp [*]; done)), H', ⟨by have := HK1.out; omega⟩, ⟨by (with_reducible repeat (first | apply Kd.R_alloc | apply Kd.R_drewN | apply Kd.R_drew)); exact HO3.out⟩, ⟨by repeat (first | (with_reducible first | exact HB.out | apply below_alloc | apply pw_below_drewN | apply below_drew1) | exact HB.out)⟩⟩
    ·rw [if_neg c4] at H
     exact absurd H (by simp)
   ·rw [if_neg c3] at H
    have c3b0 : decide (x6_1 ≤ a1) = false := decide_eq_false c3
    clear c3
    obtain rfl := Option.some.inj H
    go_wp2
    go_ret
    exact ⟨_, by first | rfl | (simp [errW_none, errW_some] <;> rfl) | (simp [*, errW_none, errW_some] <;> rfl), by (with_reducible repeat (first | apply Kd.R_alloc | apply Kd.R_drewN | apply Kd.R_drew)); exact HO_5.out, by repeat (first | (with_reducible first | exact HB.out | apply below_alloc | apply pw_below_drewN | apply below_drew1) | exact HB.out)⟩
end Go.Proofs.YtpnmmpfidiegcaaGreatDoor.C
end
section
namespace Go.Proofs.YtpnmmpfidiegcaaGreatDoor.C
open Go.RowKit Go.Proofs.YtpnmmpfidiegcaaGreatDoorW.PrintWords Go.Proofs.YtpnmmpfidiegcaaGreatDoorW.PrintLast Go.Proofs.YtpnmmpfidiegcaaGreatDoorW.PrintMore
attribute [local go_sem] max2_int min2_int max_two min_two max_three min_three max_four min_four
set_option linter.unusedVariables false
set_option linter.unusedSimpArgs false
def know_before.f (k : Nat)  : Option ((List (S52))) := (code_Code.f k (([(⟨2, 0, 1, 0, (⟨#[]⟩ : ByteArray)⟩ : S52)] : List (S52)))).bind fun bt4 => (if 1 ≤ (wrap64 ((bt4.1.size : Int) - 1)) then (if (wrap64 ((bt4.1.size : Int) - 1)) ≤ (bt4.1.size : Int) then ((code_Code.f k (([(⟨0, 1, 0, 0, (⟨#[48]⟩ : ByteArray)⟩ : S52)] : List (S52)))).bind fun bt9 => (if 1 ≤ (wrap64 ((bt9.1.size : Int) - 1)) then (if (wrap64 ((bt9.1.size : Int) - 1)) ≤ (bt9.1.size : Int) then ((some (([(⟨3, 2, 0, 0, (⟨#[]⟩ : ByteArray)⟩ : S52), (⟨4, 3, 0, 0, (⟨#[]⟩ : ByteArray)⟩ : S52), (⟨0, 4, 0, 0, (⟨#[49, 48, 48]⟩ : ByteArray)⟩ : S52), (⟨2, 4, 4, 2, (⟨#[]⟩ : ByteArray)⟩ : S52), (⟨2, 4, 1, 4, (⟨#[]⟩ : ByteArray)⟩ : S52), (⟨0, 5, 0, 0, bt9.1.extract 1 ((wrap64 ((bt9.1.size : Int) - 1)) : Int).toNat⟩ : S52), (⟨2, 5, 5, 2, (⟨#[]⟩ : ByteArray)⟩ : S52), (⟨0, 6, 0, 0, bt4.1.extract 1 ((wrap64 ((bt4.1.size : Int) - 1)) : Int).toNat⟩ : S52), (⟨2, 5, 6, 5, (⟨#[]⟩ : ByteArray)⟩ : S52), (⟨2, 5, 4, 5, (⟨#[]⟩ : ByteArray)⟩ : S52), (⟨2, 0, 5, 3, (⟨#[]⟩ : ByteArray)⟩ : S52)] : List (S52)) : List (S52))).bind fun y11 => ((know_Clear.f k 2 6).bind fun t14 => (if y11.length + t14.length < 2932031007402 then (some (y11 ++ t14)) else (none)))) else (none)) else (none))) else (none)) else (none))
set_option maxHeartbeats 8000000 in
set_option maxRecDepth 100000 in
theorem know_before.calls (k : Nat)  (r : List (S52)) (w : World) (h : know_before.f k  = some r) :
  Calls Tryz.prog 37 #[] w fun e w' => ∃ v0_ : Value, e = .returned (v0_) ∧ Kd.R k52 52 w' w.heap.size (fun _ => True) v0_ r ∧ Below w.heap.size w w' := by
 have hu52 := Tryz.underlying52
 have HB := Aside0.mk (Below.refl w.heap.size w)
 have H : ((code_Code.f k (([(⟨2, 0, 1, 0, (⟨#[]⟩ : ByteArray)⟩ : S52)] : List (S52)))).bind fun bt4 => (if 1 ≤ (wrap64 ((bt4.1.size : Int) - 1)) then (if (wrap64 ((bt4.1.size : Int) - 1)) ≤ (bt4.1.size : Int) then ((code_Code.f k (([(⟨0, 1, 0, 0, (⟨#[48]⟩ : ByteArray)⟩ : S52)] : List (S52)))).bind fun bt9 => (if 1 ≤ (wrap64 ((bt9.1.size : Int) - 1)) then (if (wrap64 ((bt9.1.size : Int) - 1)) ≤ (bt9.1.size : Int) then ((some (([(⟨3, 2, 0, 0, (⟨#[]⟩ : ByteArray)⟩ : S52), (⟨4, 3, 0, 0, (⟨#[]⟩ : ByteArray)⟩ : S52), (⟨0, 4, 0, 0, (⟨#[49, 48, 48]⟩ : ByteArray)⟩ : S52), (⟨2, 4, 4, 2, (⟨#[]⟩ : ByteArray)⟩ : S52), (⟨2, 4, 1, 4, (⟨#[]⟩ : ByteArray)⟩ : S52), (⟨0, 5, 0, 0, bt9.1.extract 1 ((wrap64 ((bt9.1.size : Int) - 1)) : Int).toNat⟩ : S52), (⟨2, 5, 5, 2, (⟨#[]⟩ : ByteArray)⟩ : S52), (⟨0, 6, 0, 0, bt4.1.extract 1 ((wrap64 ((bt4.1.size : Int) - 1)) : Int).toNat⟩ : S52), (⟨2, 5, 6, 5, (⟨#[]⟩ : ByteArray)⟩ : S52), (⟨2, 5, 4, 5, (⟨#[]⟩ : ByteArray)⟩ : S52), (⟨2, 0, 5, 3, (⟨#[]⟩ : ByteArray)⟩ : S52)] : List (S52)) : List (S52))).bind fun y11 => ((know_Clear.f k 2 6).bind fun t14 => (if y11.length + t14.length < 2932031007402 then (some (y11 ++ t14)) else (none)))) else (none)) else (none))) else (none)) else (none))) = some r := h
 clear h
 obtain ⟨y1, hy1⟩ : ∃ y_ : List (S52), y_ = (([(⟨2, 0, 1, 0, (⟨#[]⟩ : ByteArray)⟩ : S52)] : List (S52))) := ⟨_, rfl⟩
 replace H : ((code_Code.f k y1).bind fun bt4 => (if 1 ≤ (wrap64 ((bt4.1.size : Int) - 1)) then (if (wrap64 ((bt4.1.size : Int) - 1)) ≤ (bt4.1.size : Int) then ((code_Code.f k (([(⟨0, 1, 0, 0, (⟨#[48]⟩ : ByteArray)⟩ : S52)] : List (S52)))).bind fun bt9 => (if 1 ≤ (wrap64 ((bt9.1.size : Int) - 1)) then (if (wrap64 ((bt9.1.size : Int) - 1)) ≤ (bt9.1.size : Int) then ((some (([(⟨3, 2, 0, 0, (⟨#[]⟩ : ByteArray)⟩ : S52), (⟨4, 3, 0, 0, (⟨#[]⟩ : ByteArray)⟩ : S52), (⟨0, 4, 0, 0, (⟨#[49, 48, 48]⟩ : ByteArray)⟩ : S52), (⟨2, 4, 4, 2, (⟨#[]⟩ : ByteArray)⟩ : S52), (⟨2, 4, 1, 4, (⟨#[]⟩ : ByteArray)⟩ : S52), (⟨0, 5, 0, 0, bt9.1.extract 1 ((wrap64 ((bt9.1.size : Int) - 1)) : Int).toNat⟩ : S52), (⟨2, 5, 5, 2, (⟨#[]⟩ : ByteArray)⟩ : S52), (⟨0, 6, 0, 0, bt4.1.extract 1 ((wrap64 ((bt4.1.size : Int) - 1)) : Int).toNat⟩ : S52), (⟨2, 5, 6, 5, (⟨#[]⟩ : ByteArray)⟩ : S52), (⟨2, 5, 4, 5, (⟨#[]⟩ : ByteArray)⟩ : S52), (⟨2, 0, 5, 3, (⟨#[]⟩ : ByteArray)⟩ : S52)] : List (S52)) : List (S52))).bind fun y11 => ((know_Clear.f k 2 6).bind fun t14 => (if y11.length + t14.length < 2932031007402 then (some (y11 ++ t14)) else (none)))) else (none)) else (none))) else (none)) else (none))) = some r := by first | (rw [hy1]; with_reducible exact H) | (have H2_ := (Option.bind_some _ _).symm.trans H; rw [hy1]; with_reducible exact H2_) | (have H2_ := (Option.bind_some _ _).symm.trans H; with_reducible exact H2_) | with_reducible exact H | (rw [hy1]; exact H) | exact H
 have Ny1 := Aside0.mk hy1
 clear hy1
 replace H := Option.bind_eq_some_iff.mp H
 obtain ⟨⟨t4, t5⟩, A10, H⟩ := H
 replace H : (if 1 ≤ (wrap64 ((t4.size : Int) - 1)) then (if (wrap64 ((t4.size : Int) - 1)) ≤ (t4.size : Int) then ((code_Code.f k (([(⟨0, 1, 0, 0, (⟨#[48]⟩ : ByteArray)⟩ : S52)] : List (S52)))).bind fun bt9 => (if 1 ≤ (wrap64 ((bt9.1.size : Int) - 1)) then (if (wrap64 ((bt9.1.size : Int) - 1)) ≤ (bt9.1.size : Int) then ((some (([(⟨3, 2, 0, 0, (⟨#[]⟩ : ByteArray)⟩ : S52), (⟨4, 3, 0, 0, (⟨#[]⟩ : ByteArray)⟩ : S52), (⟨0, 4, 0, 0, (⟨#[49, 48, 48]⟩ : ByteArray)⟩ : S52), (⟨2, 4, 4, 2, (⟨#[]⟩ : ByteArray)⟩ : S52), (⟨2, 4, 1, 4, (⟨#[]⟩ : ByteArray)⟩ : S52), (⟨0, 5, 0, 0, bt9.1.extract 1 ((wrap64 ((bt9.1.size : Int) - 1)) : Int).toNat⟩ : S52), (⟨2, 5, 5, 2, (⟨#[]⟩ : ByteArray)⟩ : S52), (⟨0, 6, 0, 0, t4.extract 1 ((wrap64 ((t4.size : Int) - 1)) : Int).toNat⟩ : S52), (⟨2, 5, 6, 5, (⟨#[]⟩ : ByteArray)⟩ : S52), (⟨2, 5, 4, 5, (⟨#[]⟩ : ByteArray)⟩ : S52), (⟨2, 0, 5, 3, (⟨#[]⟩ : ByteArray)⟩ : S52)] : List (S52)) : List (S52))).bind fun y11 => ((know_Clear.f k 2 6).bind fun t14 => (if y11.length + t14.length < 2932031007402 then (some (y11 ++ t14)) else (none)))) else (none)) else (none))) else (none)) else (none)) = some r := H
 have A1 := Aside0.mk A10
 clear A10
 by_cases c2 : 1 ≤ (wrap64 ((t4.size : Int) - 1))
 ·rw [if_pos c2] at H
  have c2b0 := eq_true c2
  have c2b1 : decide (1 ≤ (wrap64 ((t4.size : Int) - 1))) = true := decide_eq_true c2
  clear c2
  by_cases c3 : (wrap64 ((t4.size : Int) - 1)) ≤ (t4.size : Int)
  ·rw [if_pos c3] at H
   have c3b0 := eq_true c3
   have c3b1 : decide ((wrap64 ((t4.size : Int) - 1)) ≤ (t4.size : Int)) = true := decide_eq_true c3
   clear c3
   obtain ⟨y6, hy6⟩ : ∃ y_ : List (S52), y_ = (([(⟨0, 1, 0, 0, (⟨#[48]⟩ : ByteArray)⟩ : S52)] : List (S52))) := ⟨_, rfl⟩
   replace H : ((code_Code.f k y6).bind fun bt9 => (if 1 ≤ (wrap64 ((bt9.1.size : Int) - 1)) then (if (wrap64 ((bt9.1.size : Int) - 1)) ≤ (bt9.1.size : Int) then ((some (([(⟨3, 2, 0, 0, (⟨#[]⟩ : ByteArray)⟩ : S52), (⟨4, 3, 0, 0, (⟨#[]⟩ : ByteArray)⟩ : S52), (⟨0, 4, 0, 0, (⟨#[49, 48, 48]⟩ : ByteArray)⟩ : S52), (⟨2, 4, 4, 2, (⟨#[]⟩ : ByteArray)⟩ : S52), (⟨2, 4, 1, 4, (⟨#[]⟩ : ByteArray)⟩ : S52), (⟨0, 5, 0, 0, bt9.1.extract 1 ((wrap64 ((bt9.1.size : Int) - 1)) : Int).toNat⟩ : S52), (⟨2, 5, 5, 2, (⟨#[]⟩ : ByteArray)⟩ : S52), (⟨0, 6, 0, 0, t4.extract 1 ((wrap64 ((t4.size : Int) - 1)) : Int).toNat⟩ : S52), (⟨2, 5, 6, 5, (⟨#[]⟩ : ByteArray)⟩ : S52), (⟨2, 5, 4, 5, (⟨#[]⟩ : ByteArray)⟩ : S52), (⟨2, 0, 5, 3, (⟨#[]⟩ : ByteArray)⟩ : S52)] : List (S52)) : List (S52))).bind fun y11 => ((know_Clear.f k 2 6).bind fun t14 => (if y11.length + t14.length < 2932031007402 then (some (y11 ++ t14)) else (none)))) else (none)) else (none))) = some r := by first | (rw [hy6]; with_reducible exact H) | (have H2_ := (Option.bind_some _ _).symm.trans H; rw [hy6]; with_reducible exact H2_) | (have H2_ := (Option.bind_some _ _).symm.trans H; with_reducible exact H2_) | with_reducible exact H | (rw [hy6]; exact H) | exact H
   have Ny6 := Aside0.mk hy6
   clear hy6
   replace H := Option.bind_eq_some_iff.mp H
   obtain ⟨⟨t9, t10⟩, A40, H⟩ := H
   replace H : (if 1 ≤ (wrap64 ((t9.size : Int) - 1)) then (if (wrap64 ((t9.size : Int) - 1)) ≤ (t9.size : Int) then ((some (([(⟨3, 2, 0, 0, (⟨#[]⟩ : ByteArray)⟩ : S52), (⟨4, 3, 0, 0, (⟨#[]⟩ : ByteArray)⟩ : S52), (⟨0, 4, 0, 0, (⟨#[49, 48, 48]⟩ : ByteArray)⟩ : S52), (⟨2, 4, 4, 2, (⟨#[]⟩ : ByteArray)⟩ : S52), (⟨2, 4, 1, 4, (⟨#[]⟩ : ByteArray)⟩ : S52), (⟨0, 5, 0, 0, t9.extract 1 ((wrap64 ((t9.size : Int) - 1)) : Int).toNat⟩ : S52), (⟨2, 5, 5, 2, (⟨#[]⟩ : ByteArray)⟩ : S52), (⟨0, 6, 0, 0, t4.extract 1 ((wrap64 ((t4.size : Int) - 1)) : Int).toNat⟩ : S52), (⟨2, 5, 6, 5, (⟨#[]⟩ : ByteArray)⟩ : S52), (⟨2, 5, 4, 5, (⟨#[]⟩ : ByteArray)⟩ : S52), (⟨2, 0, 5, 3, (⟨#[]⟩ : ByteArray)⟩ : S52)] : List (S52)) : List (S52))).bind fun y11 => ((know_Clear.f k 2 6).bind fun t14 => (if y11.length + t14.length < 2932031007402 then (some (y11 ++ t14)) else (none)))) else (none)) else (none)) = some r := H
   have A4 := Aside0.mk A40
   clear A40
   by_cases c5 : 1 ≤ (wrap64 ((t9.size : Int) - 1))
   ·rw [if_pos c5] at H
    have c5b0 := eq_true c5
    have c5b1 : decide (1 ≤ (wrap64 ((t9.size : Int) - 1))) = true := decide_eq_true c5
    clear c5
    by_cases c6 : (wrap64 ((t9.size : Int) - 1)) ≤ (t9.size : Int)
    ·rw [if_pos c6] at H
     have c6b0 := eq_true c6
     have c6b1 : decide ((wrap64 ((t9.size : Int) - 1)) ≤ (t9.size : Int)) = true := decide_eq_true c6
     clear c6
     obtain ⟨y11, hy11⟩ : ∃ y_ : List (S52), y_ = (([(⟨3, 2, 0, 0, (⟨#[]⟩ : ByteArray)⟩ : S52), (⟨4, 3, 0, 0, (⟨#[]⟩ : ByteArray)⟩ : S52), (⟨0, 4, 0, 0, (⟨#[49, 48, 48]⟩ : ByteArray)⟩ : S52), (⟨2, 4, 4, 2, (⟨#[]⟩ : ByteArray)⟩ : S52), (⟨2, 4, 1, 4, (⟨#[]⟩ : ByteArray)⟩ : S52), (⟨0, 5, 0, 0, t9.extract 1 ((wrap64 ((t9.size : Int) - 1)) : Int).toNat⟩ : S52), (⟨2, 5, 5, 2, (⟨#[]⟩ : ByteArray)⟩ : S52), (⟨0, 6, 0, 0, t4.extract 1 ((wrap64 ((t4.size : Int) - 1)) : Int).toNat⟩ : S52), (⟨2, 5, 6, 5, (⟨#[]⟩ : ByteArray)⟩ : S52), (⟨2, 5, 4, 5, (⟨#[]⟩ : ByteArray)⟩ : S52), (⟨2, 0, 5, 3, (⟨#[]⟩ : ByteArray)⟩ : S52)] : List (S52))) := ⟨_, rfl⟩
     replace H : ((know_Clear.f k 2 6).bind fun t14 => (if y11.length + t14.length < 2932031007402 then (some (y11 ++ t14)) else (none))) = some r := by first | (rw [hy11]; with_reducible exact H) | (have H2_ := (Option.bind_some _ _).symm.trans H; rw [hy11]; with_reducible exact H2_) | (have H2_ := (Option.bind_some _ _).symm.trans H; with_reducible exact H2_) | with_reducible exact H | (rw [hy11]; exact H) | exact H
     have Ny11 := Aside0.mk hy11
     clear hy11
     replace H := Option.bind_eq_some_iff.mp H
     obtain ⟨t14, A70, H⟩ := H
     replace H : (if y11.length + t14.length < 2932031007402 then (some (y11 ++ t14)) else (none)) = some r := H
     have A7 := Aside0.mk A70
     clear A70
     by_cases c8 : y11.length + t14.length < 2932031007402
     ·rw [if_pos c8] at H
      have LMc8 := Aside0.mk c8
      clear c8
      obtain ⟨y17, hy17⟩ : ∃ y_ : List (S52), y_ = (y11 ++ t14) := ⟨_, rfl⟩
      replace H : (some y17) = some r := by first | (rw [hy17]; with_reducible exact H) | (have H2_ := (Option.bind_some _ _).symm.trans H; rw [hy17]; with_reducible exact H2_) | (have H2_ := (Option.bind_some _ _).symm.trans H; with_reducible exact H2_) | with_reducible exact H | (rw [hy17]; exact H) | exact H
      have Ny17 := Aside0.mk hy17
      clear hy17
      obtain rfl := Option.some.inj H
      go_enter Tryz.func37, Tryz.ntmps37
      go_wp2_with (first | ((with_reducible refine gate_dst (N := 8) rfl ?_); refine Kd.R_lit k52 _ 52 ?hg (N := 8) ?hd (xs := ([(⟨2, 0, 1, 0, (⟨#[]⟩ : ByteArray)⟩ : S52)] : List (S52))) (inner := [.int .i64 2, .int .i64 0, .int .i64 1, .int .i64 0, .string (⟨#[]⟩ : ByteArray)]) (ok := fun _ => True) (okp := fun _ => True) ?hr ?hp (fun _ hk => hk) trivial (Below.refl _ _) (Nat.le_refl _) (by simp) ?_; (case hd => rfl); (case hg => rfl); (case hr => first | (go_simp; done) | (go_simp; rfl)); (case hp => exact (Reps.c5 (show Kd.M k52 _ _ _ (⟨2, 0, 1, 0, (⟨#[]⟩ : ByteArray)⟩ : S52) [.int .i64 2, .int .i64 0, .int .i64 1, .int .i64 0, .string (⟨#[]⟩ : ByteArray)] from (k52_mkM _ _ _ (⟨2, 0, 1, 0, (⟨#[]⟩ : ByteArray)⟩ : S52) )) (Reps.none _ _))); intro v2 w9 ho10 hb hg_ hnew_; clear hg_ hnew_; (first | rw [← Ny1.out] at ho10 | (simp only [Int.reduceToNat] at ho10; rw [← Ny1.out] at ho10)); have n0_ := Aside0.mk (Kd.R_lower ho10 (below_size (by repeat (first | (with_reducible first | exact HB.out | apply below_alloc | apply pw_below_drewN | apply below_drew1) | exact HB.out)))); have n1_ := Aside0.mk (below_step (by repeat (first | (with_reducible first | exact HB.out | apply below_alloc | apply pw_below_drewN | apply below_drew1) | exact HB.out)) hb); clear HB; have HO3 := n0_; have HB := n1_; clear n0_ n1_; clear hb ho10; obtain ⟨Ao11, co11, eo11⟩ := Kd.R_slice HO3.out; subst eo11) | ((with_reducible refine gate_callee (f := 34) rfl ?_); refine goesL_ (some 9) rfl rfl Tryz.func34 (by kernel_rfl) rfl #[.slice Ao11 y1.length co11] rfl (by (try simp only [List.map_toArray, List.map_cons, List.map_nil]); first | done | rfl | (simp only [List.length_drop, List.length_take]; rfl)) ?_; (with_reducible refine (code_Code.calls k _ _ y1 t4 t5 _ ?side1 ?side2 A1.out).mono ?_); (case side1 => repeat (first | exact (Kd.R_reads' HO3.out).2.2 | (with_reducible refine Kd.C_alloc ?_ _) | (with_reducible refine Kd.C_drewN ?_ _) | (with_reducible refine Kd.C_drew ?_))); (case side2 => exact (Kd.R_reads' HO3.out).2.1); rintro e w12 ⟨rfl, hb⟩; refine ⟨_, rfl, ?_⟩; have n0_ := Aside0.mk (Kd.R_below (by (with_reducible repeat (first | apply Kd.R_alloc | apply Kd.R_drewN | apply Kd.R_drew)); exact HO3.out) hb); have n1_ := Aside0.mk (below_step (by repeat (first | (with_reducible first | exact HB.out | apply below_alloc | apply pw_below_drewN | apply below_drew1) | exact HB.out)) hb); clear HO3; clear HB; have HO3 := n0_; have HB := n1_; clear n0_ n1_; (try clear hb); (try clear hb2); (try clear hk); (try clear hi)) | ((with_reducible refine gate_dst (N := 19) rfl ?_); refine Kd.R_lit k52 _ 52 ?hg (N := 19) ?hd (xs := ([(⟨0, 1, 0, 0, (⟨#[48]⟩ : ByteArray)⟩ : S52)] : List (S52))) (inner := [.int .i64 0, .int .i64 1, .int .i64 0, .int .i64 0, .string (⟨#[48]⟩ : ByteArray)]) (ok := fun _ => True) (okp := fun _ => True) ?hr ?hp (fun _ hk => hk) trivial (Below.refl _ _) (Nat.le_refl _) (by simp) ?_; (case hd => rfl); (case hg => rfl); (case hr => first | (go_simp; done) | (go_simp; rfl)); (case hp => exact (Reps.c5 (show Kd.M k52 _ _ _ (⟨0, 1, 0, 0, (⟨#[48]⟩ : ByteArray)⟩ : S52) [.int .i64 0, .int .i64 1, .int .i64 0, .int .i64 0, .string (⟨#[48]⟩ : ByteArray)] from (k52_mkM _ _ _ (⟨0, 1, 0, 0, (⟨#[48]⟩ : ByteArray)⟩ : S52) )) (Reps.none _ _))); intro v7 w13 ho14 hb hg_ hnew_; clear hg_ hnew_; (first | rw [← Ny6.out] at ho14 | (simp only [Int.reduceToNat] at ho14; rw [← Ny6.out] at ho14)); have n0_ := Aside0.mk (Kd.R_elder' (by (with_reducible repeat (first | apply Kd.R_alloc | apply Kd.R_drewN | apply Kd.R_drew)); exact HO3.out) (Kd.R_base ho14) hb); have n1_ := Aside0.mk (Kd.R_lower (Kd.R_new' ho14 (Kd.R_lt (by (with_reducible repeat (first | apply Kd.R_alloc | apply Kd.R_drewN | apply Kd.R_drew)); exact HO3.out))) (below_size (by repeat (first | (with_reducible first | exact HB.out | apply below_alloc | apply pw_below_drewN | apply below_drew1) | exact HB.out)))); have n2_ := Aside0.mk (below_step (by repeat (first | (with_reducible first | exact HB.out | apply below_alloc | apply pw_below_drewN | apply below_drew1) | exact HB.out)) hb); clear HO3; clear HB; have HO3 := n0_; have HO8 := n1_; have HB := n2_; clear n0_ n1_ n2_; clear hb ho14; obtain ⟨Ao15, co15, eo15⟩ := Kd.R_slice HO8.out; subst eo15) | ((with_reducible refine gate_callee (f := 34) rfl ?_); refine goesL_ (some 20) rfl rfl Tryz.func34 (by kernel_rfl) rfl #[.slice Ao15 y6.length co15] rfl (by (try simp only [List.map_toArray, List.map_cons, List.map_nil]); first | done | rfl | (simp only [List.length_drop, List.length_take]; rfl)) ?_; (with_reducible refine (code_Code.calls k _ _ y6 t9 t10 _ ?side1 ?side2 A4.out).mono ?_); (case side1 => repeat (first | exact (Kd.R_reads' HO8.out).2.2 | (with_reducible refine Kd.C_alloc ?_ _) | (with_reducible refine Kd.C_drewN ?_ _) | (with_reducible refine Kd.C_drew ?_))); (case side2 => exact (Kd.R_reads' HO8.out).2.1); rintro e w16 ⟨rfl, hb⟩; refine ⟨_, rfl, ?_⟩; have n0_ := Aside0.mk (Kd.R_below (by (with_reducible repeat (first | apply Kd.R_alloc | apply Kd.R_drewN | apply Kd.R_drew)); exact HO3.out) hb); have n1_ := Aside0.mk (Kd.R_below (by (with_reducible repeat (first | apply Kd.R_alloc | apply Kd.R_drewN | apply Kd.R_drew)); exact HO8.out) hb); have n2_ := Aside0.mk (below_step (by repeat (first | (with_reducible first | exact HB.out | apply below_alloc | apply pw_below_drewN | apply below_drew1) | exact HB.out)) hb); clear HO3; clear HO8; clear HB; have HO3 := n0_; have HO8 := n1_; have HB := n2_; clear n0_ n1_ n2_; (try clear hb); (try clear hb2); (try clear hk); (try clear hi)) | ((with_reducible refine gate_dst (N := 41) rfl ?_); refine Kd.R_lit k52 _ 52 ?hg (N := 41) ?hd (xs := ([(⟨3, 2, 0, 0, (⟨#[]⟩ : ByteArray)⟩ : S52), (⟨4, 3, 0, 0, (⟨#[]⟩ : ByteArray)⟩ : S52), (⟨0, 4, 0, 0, (⟨#[49, 48, 48]⟩ : ByteArray)⟩ : S52), (⟨2, 4, 4, 2, (⟨#[]⟩ : ByteArray)⟩ : S52), (⟨2, 4, 1, 4, (⟨#[]⟩ : ByteArray)⟩ : S52), (⟨0, 5, 0, 0, t9.extract 1 ((wrap64 ((t9.size : Int) - 1)) : Int).toNat⟩ : S52), (⟨2, 5, 5, 2, (⟨#[]⟩ : ByteArray)⟩ : S52), (⟨0, 6, 0, 0, t4.extract 1 ((wrap64 ((t4.size : Int) - 1)) : Int).toNat⟩ : S52), (⟨2, 5, 6, 5, (⟨#[]⟩ : ByteArray)⟩ : S52), (⟨2, 5, 4, 5, (⟨#[]⟩ : ByteArray)⟩ : S52), (⟨2, 0, 5, 3, (⟨#[]⟩ : ByteArray)⟩ : S52)] : List (S52))) (inner := [.int .i64 3, .int .i64 2, .int .i64 0, .int .i64 0, .string (⟨#[]⟩ : ByteArray), .int .i64 4, .int .i64 3, .int .i64 0, .int .i64 0, .string (⟨#[]⟩ : ByteArray), .int .i64 0, .int .i64 4, .int .i64 0, .int .i64 0, .string (⟨#[49, 48, 48]⟩ : ByteArray), .int .i64 2, .int .i64 4, .int .i64 4, .int .i64 2, .string (⟨#[]⟩ : ByteArray), .int .i64 2, .int .i64 4, .int .i64 1, .int .i64 4, .string (⟨#[]⟩ : ByteArray), .int .i64 0, .int .i64 5, .int .i64 0, .int .i64 0, .string (t9.extract 1 ((wrap64 ((t9.size : Int) - 1)) : Int).toNat), .int .i64 2, .int .i64 5, .int .i64 5, .int .i64 2, .string (⟨#[]⟩ : ByteArray), .int .i64 0, .int .i64 6, .int .i64 0, .int .i64 0, .string (t4.extract 1 ((wrap64 ((t4.size : Int) - 1)) : Int).toNat), .int .i64 2, .int .i64 5, .int .i64 6, .int .i64 5, .string (⟨#[]⟩ : ByteArray), .int .i64 2, .int .i64 5, .int .i64 4, .int .i64 5, .string (⟨#[]⟩ : ByteArray), .int .i64 2, .int .i64 0, .int .i64 5, .int .i64 3, .string (⟨#[]⟩ : ByteArray)]) (ok := fun _ => True) (okp := fun _ => True) ?hr ?hp (fun _ hk => hk) trivial (Below.refl _ _) (Nat.le_refl _) (by simp) ?_; (case hd => rfl); (case hg => rfl); (case hr => first | (go_simp; done) | (go_simp; rfl)); (case hp => exact (Reps.c5 (show Kd.M k52 _ _ _ (⟨3, 2, 0, 0, (⟨#[]⟩ : ByteArray)⟩ : S52) [.int .i64 3, .int .i64 2, .int .i64 0, .int .i64 0, .string (⟨#[]⟩ : ByteArray)] from (k52_mkM _ _ _ (⟨3, 2, 0, 0, (⟨#[]⟩ : ByteArray)⟩ : S52) )) (Reps.c5 (show Kd.M k52 _ _ _ (⟨4, 3, 0, 0, (⟨#[]⟩ : ByteArray)⟩ : S52) [.int .i64 4, .int .i64 3, .int .i64 0, .int .i64 0, .string (⟨#[]⟩ : ByteArray)] from (k52_mkM _ _ _ (⟨4, 3, 0, 0, (⟨#[]⟩ : ByteArray)⟩ : S52) )) (Reps.c5 (show Kd.M k52 _ _ _ (⟨0, 4, 0, 0, (⟨#[49, 48, 48]⟩ : ByteArray)⟩ : S52) [.int .i64 0, .int .i64 4, .int .i64 0, .int .i64 0, .string (⟨#[49, 48, 48]⟩ : ByteArray)] from (k52_mkM _ _ _ (⟨0, 4, 0, 0, (⟨#[49, 48, 48]⟩ : ByteArray)⟩ : S52) )) (Reps.c5 (show Kd.M k52 _ _ _ (⟨2, 4, 4, 2, (⟨#[]⟩ : ByteArray)⟩ : S52) [.int .i64 2, .int .i64 4, .int .i64 4, .int .i64 2, .string (⟨#[]⟩ : ByteArray)] from (k52_mkM _ _ _ (⟨2, 4, 4, 2, (⟨#[]⟩ : ByteArray)⟩ : S52) )) (Reps.c5 (show Kd.M k52 _ _ _ (⟨2, 4, 1, 4, (⟨#[]⟩ : ByteArray)⟩ : S52) [.int .i64 2, .int .i64 4, .int .i64 1, .int .i64 4, .string (⟨#[]⟩ : ByteArray)] from (k52_mkM _ _ _ (⟨2, 4, 1, 4, (⟨#[]⟩ : ByteArray)⟩ : S52) )) (Reps.c5 (show Kd.M k52 _ _ _ (⟨0, 5, 0, 0, t9.extract 1 ((wrap64 ((t9.size : Int) - 1)) : Int).toNat⟩ : S52) [.int .i64 0, .int .i64 5, .int .i64 0, .int .i64 0, .string (t9.extract 1 ((wrap64 ((t9.size : Int) - 1)) : Int).toNat)] from (k52_mkM _ _ _ (⟨0, 5, 0, 0, t9.extract 1 ((wrap64 ((t9.size : Int) - 1)) : Int).toNat⟩ : S52) )) (Reps.c5 (show Kd.M k52 _ _ _ (⟨2, 5, 5, 2, (⟨#[]⟩ : ByteArray)⟩ : S52) [.int .i64 2, .int .i64 5, .int .i64 5, .int .i64 2, .string (⟨#[]⟩ : ByteArray)] from (k52_mkM _ _ _ (⟨2, 5, 5, 2, (⟨#[]⟩ : ByteArray)⟩ : S52) )) (Reps.c5 (show Kd.M k52 _ _ _ (⟨0, 6, 0, 0, t4.extract 1 ((wrap64 ((t4.size : Int) - 1)) : Int).toNat⟩ : S52) [.int .i64 0, .int .i64 6, .int .i64 0, .int .i64 0, .string (t4.extract 1 ((wrap64 ((t4.size : Int) - 1)) : Int).toNat)] from (k52_mkM _ _ _ (⟨0, 6, 0, 0, t4.extract 1 ((wrap64 ((t4.size : Int) - 1)) : Int).toNat⟩ : S52) )) (Reps.c5 (show Kd.M k52 _ _ _ (⟨2, 5, 6, 5, (⟨#[]⟩ : ByteArray)⟩ : S52) [.int .i64 2, .int .i64 5, .int .i64 6, .int .i64 5, .string (⟨#[]⟩ : ByteArray)] from (k52_mkM _ _ _ (⟨2, 5, 6, 5, (⟨#[]⟩ : ByteArray)⟩ : S52) )) (Reps.c5 (show Kd.M k52 _ _ _ (⟨2, 5, 4, 5, (⟨#[]⟩ : ByteArray)⟩ : S52) [.int .i64 2, .int .i64 5, .int .i64 4, .int .i64 5, .string (⟨#[]⟩ : ByteArray)] from (k52_mkM _ _ _ (⟨2, 5, 4, 5, (⟨#[]⟩ : ByteArray)⟩ : S52) )) (Reps.c5 (show Kd.M k52 _ _ _ (⟨2, 0, 5, 3, (⟨#[]⟩ : ByteArray)⟩ : S52) [.int .i64 2, .int .i64 0, .int .i64 5, .int .i64 3, .string (⟨#[]⟩ : ByteArray)] from (k52_mkM _ _ _ (⟨2, 0, 5, 3, (⟨#[]⟩ : ByteArray)⟩ : S52) )) (Reps.none _ _))))))))))))); intro v12 w17 ho18 hb hg_ hnew_; clear hg_ hnew_; (first | rw [← Ny11.out] at ho18 | (simp only [Int.reduceToNat] at ho18; rw [← Ny11.out] at ho18)); have n0_ := Aside0.mk (Kd.R_elder' (by (with_reducible repeat (first | apply Kd.R_alloc | apply Kd.R_drewN | apply Kd.R_drew)); exact HO3.out) (Kd.R_base ho18) hb); have n1_ := Aside0.mk (Kd.R_elder' (by (with_reducible repeat (first | apply Kd.R_alloc | apply Kd.R_drewN | apply Kd.R_drew)); exact HO8.out) (Kd.R_base ho18) hb); have n2_ := Aside0.mk (Kd.R_lower (Kd.R_new' (Kd.R_new' ho18 (Kd.R_lt (by (with_reducible repeat (first | apply Kd.R_alloc | apply Kd.R_drewN | apply Kd.R_drew)); exact HO3.out))) (Kd.R_lt (by (with_reducible repeat (first | apply Kd.R_alloc | apply Kd.R_drewN | apply Kd.R_drew)); exact HO8.out))) (below_size (by repeat (first | (with_reducible first | exact HB.out | apply below_alloc | apply pw_below_drewN | apply below_drew1) | exact HB.out)))); have n3_ := Aside0.mk (below_step (by repeat (first | (with_reducible first | exact HB.out | apply below_alloc | apply pw_below_drewN | apply below_drew1) | exact HB.out)) hb); clear HO3; clear HO8; clear HB; have HO3 := n0_; have HO8 := n1_; have HO13 := n2_; have HB := n3_; clear n0_ n1_ n2_ n3_; clear hb ho18) | ((with_reducible refine gate_callee (f := 49) rfl ?_); refine goesL_ (some 43) rfl rfl Tryz.func49 (by kernel_rfl) rfl #[.int .i64 2, .int .i64 6] rfl (by (try simp only [List.map_toArray, List.map_cons, List.map_nil]); first | done | rfl | (simp only [List.length_drop, List.length_take]; rfl)) ?_; (with_reducible refine (know_Clear.calls k 2 6 t14 _ A7.out).mono ?_); rintro e w19 ⟨v15, rfl, ho0, hb⟩; refine ⟨_, rfl, ?_⟩; have n0_ := Aside0.mk (Kd.R_elder' (by (with_reducible repeat (first | apply Kd.R_alloc | apply Kd.R_drewN | apply Kd.R_drew)); exact HO3.out) (Kd.R_base ho0) hb); have n1_ := Aside0.mk (Kd.R_elder' (by (with_reducible repeat (first | apply Kd.R_alloc | apply Kd.R_drewN | apply Kd.R_drew)); exact HO8.out) (Kd.R_base ho0) hb); have n2_ := Aside0.mk (Kd.R_elder' (by (with_reducible repeat (first | apply Kd.R_alloc | apply Kd.R_drewN | apply Kd.R_drew)); exact HO13.out) (Kd.R_base ho0) hb); have n3_ := Aside0.mk (Kd.R_lower (Kd.R_new' (Kd.R_new' (Kd.R_new' ho0 (Kd.R_lt (by (with_reducible repeat (first | apply Kd.R_alloc | apply Kd.R_drewN | apply Kd.R_drew)); exact HO3.out))) (Kd.R_lt (by (with_reducible repeat (first | apply Kd.R_alloc | apply Kd.R_drewN | apply Kd.R_drew)); exact HO8.out))) (Kd.R_lt (by (with_reducible repeat (first | apply Kd.R_alloc | apply Kd.R_drewN | apply Kd.R_drew)); exact HO13.out))) (below_size (by repeat (first | (with_reducible first | exact HB.out | apply below_alloc | apply pw_below_drewN | apply below_drew1) | exact HB.out)))); have n4_ := Aside0.mk (below_step (by repeat (first | (with_reducible first | exact HB.out | apply below_alloc | apply pw_below_drewN | apply below_drew1) | exact HB.out)) hb); clear HO3; clear HO8; clear HO13; clear HB; have HO3 := n0_; have HO8 := n1_; have HO13 := n2_; have HO16 := n3_; have HB := n4_; clear n0_ n1_ n2_ n3_ n4_; (try clear hb); (try clear hb2); (try clear hk); (try clear hi); (try clear ho0); obtain ⟨Ao21, co21, eo21⟩ := Kd.R_slice HO16.out; subst eo21) | ((with_reducible refine gate_builtin (b := .append) (xs := #[.tmp 42, .tmp 43]) rfl ?_); at_builtin; refine Kd.R_append_rows k52 (w0 := w) w.heap.size rfl (.tmp 42) (.tmp 43) 29 52 (.agg #[(.int .i64 0), (.int .i64 0), (.int .i64 0), (.int .i64 0), (.string ⟨#[]⟩)]) 48 rfl Tryz.underlying29 info52 rfl (by decide) (by omega) v12 y11 t14 _ _ _ (fun k_ => some k_ ≠ (.slice Ao11 y1.length co11 : Value).ownBlock ∧ some k_ ≠ (.slice Ao15 y6.length co15 : Value).ownBlock ∧ some k_ ≠ (.slice Ao21 t14.length co21 : Value).ownBlock) (fun _ => False) rfl rfl ?aO ?aR (fun _ _ h => h) (fun _ h => h.elim) ?aF ?aB ?aS ?aL ?_; (case aR => repeat (first | exact (Kd.R_reads' HO16.out).2.2 | (with_reducible refine Kd.C_alloc ?_ _) | (with_reducible refine Kd.C_drewN ?_ _) | (with_reducible refine Kd.C_drew ?_))); (case aB => exact (by repeat (first | (with_reducible first | exact HB.out | apply below_alloc | apply pw_below_drewN | apply below_drew1) | exact HB.out))); (case aF => exact (fun k_ hk => ⟨Kd.fresh' (Kd.R_lt (by (with_reducible repeat (first | apply Kd.R_alloc | apply Kd.R_drewN | apply Kd.R_drew)); exact HO3.out)) k_ hk, Kd.fresh' (Kd.R_lt (by (with_reducible repeat (first | apply Kd.R_alloc | apply Kd.R_drewN | apply Kd.R_drew)); exact HO8.out)) k_ hk, Kd.fresh' (Kd.R_lt (by (with_reducible repeat (first | apply Kd.R_alloc | apply Kd.R_drewN | apply Kd.R_drew)); exact HO16.out)) k_ hk⟩)); (case aO => exact (by (with_reducible repeat (first | apply Kd.R_alloc | apply Kd.R_drewN | apply Kd.R_drew)); exact Kd.R_mono HO13.out (fun _ hk => ⟨hk.1.1.2, ⟨hk.1.2, hk.2⟩⟩))); (case aS => exact (below_size (by repeat (first | (with_reducible first | exact HB.out | apply below_alloc | apply pw_below_drewN | apply below_drew1) | exact HB.out)))); (case aL => have := LMc8.out; first | omega | (simp only [lit_size, List.size_toArray, List.length_cons, List.length_nil]; omega)); intro v18 w20 ho hb hg hat; rw [← Ny17.out] at ho; have n0_ := Aside0.mk (Kd.R_after (ok := (fun k_ => some k_ ≠ (.slice Ao15 y6.length co15 : Value).ownBlock ∧ some k_ ≠ (.slice Ao21 t14.length co21 : Value).ownBlock)) (by (with_reducible repeat (first | apply Kd.R_alloc | apply Kd.R_drewN | apply Kd.R_drew)); exact Kd.R_mono HO3.out (fun _ hk => ⟨⟨hk.1.1.2, hk.2⟩, hk.1.2⟩)) hg hat); have n1_ := Aside0.mk (Kd.R_after (ok := (fun k_ => some k_ ≠ (.slice Ao11 y1.length co11 : Value).ownBlock ∧ some k_ ≠ (.slice Ao21 t14.length co21 : Value).ownBlock)) (by (with_reducible repeat (first | apply Kd.R_alloc | apply Kd.R_drewN | apply Kd.R_drew)); exact Kd.R_mono HO8.out (fun _ hk => ⟨⟨hk.1.1.2, hk.2⟩, hk.1.2⟩)) hg hat); have n2_ := Aside0.mk (Kd.R_after (ok := (fun k_ => some k_ ≠ (.slice Ao11 y1.length co11 : Value).ownBlock ∧ some k_ ≠ (.slice Ao15 y6.length co15 : Value).ownBlock)) (by (with_reducible repeat (first | apply Kd.R_alloc | apply Kd.R_drewN | apply Kd.R_drew)); exact Kd.R_mono HO16.out (fun _ hk => ⟨⟨hk.1.1.2, hk.1.2⟩, hk.2⟩)) hg hat); have n3_ := Aside0.mk (hb); have n4_ := Aside0.mk (ho); clear HO3; clear HO8; clear HO16; clear HB; clear HO13; have HO3 := n0_; have HO8 := n1_; have HO16 := n2_; have HB := n3_; have HO19 := n4_; clear n0_ n1_ n2_ n3_ n4_; clear ho hb hg hat))
      go_ret
      exact ⟨_, by first | rfl | (simp [errW_none, errW_some] <;> rfl) | (simp [*, errW_none, errW_some] <;> rfl), by (with_reducible repeat (first | apply Kd.R_alloc | apply Kd.R_drewN | apply Kd.R_drew)); exact Kd.R_mono HO19.out (fun _ hk => trivial), by repeat (first | (with_reducible first | exact HB.out | apply below_alloc | apply pw_below_drewN | apply below_drew1) | exact HB.out)⟩
     ·rw [if_neg c8] at H
      exact absurd H (by simp)
    ·rw [if_neg c6] at H
     exact absurd H (by simp)
   ·rw [if_neg c5] at H
    exact absurd H (by simp)
  ·rw [if_neg c3] at H
   exact absurd H (by simp)
 ·rw [if_neg c2] at H
  exact absurd H (by simp)
end Go.Proofs.YtpnmmpfidiegcaaGreatDoor.C
end
