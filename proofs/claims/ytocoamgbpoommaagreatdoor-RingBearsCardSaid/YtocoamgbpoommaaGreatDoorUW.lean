/- Texts of this claim, together: what the functions return, and what they say in plain words. -/
import Derived.Test.YtocoamgbpoommaaGreatDoorUB
import Derived.Test.YtocoamgbpoommaaGreatDoorUC
import Derived.Test.YtocoamgbpoommaaGreatDoorUP
import Derived.Test.YtocoamgbpoommaaGreatDoorUV
import Derived.Test.YtocoamgbpoommaaGreatDoorUJ
import Derived.Test.YtocoamgbpoommaaGreatDoorUL
import Derived.Test.YtocoamgbpoommaaGreatDoorUU
import Derived.Test.YtocoamgbpoommaaGreatDoorUS
section
namespace Go.Proofs.YtocoamgbpoommaaGreatDoor.C
open Go.RowKit Go.Proofs.YtocoamgbpoommaaGreatDoorW.PrintWords Go.Proofs.YtocoamgbpoommaaGreatDoorW.PrintLast Go.Proofs.YtocoamgbpoommaaGreatDoorW.PrintMore
attribute [local go_sem] max2_int min2_int max_two min_two max_three min_three max_four min_four
set_option linter.unusedVariables false
set_option linter.unusedSimpArgs false
mutual
def ring_Ring.j0 : Nat → Int → Bool → Option ((List (List (S72))) × Int)
 | 0, _, _ => none
 | k + 1, x0, x12 => if x12 = true then (some (([] : List (List (S72))), 2)) else (ring_Ring.l0 k x0 ([] : List (List (S72))) x0 0)
def ring_Ring.l0 : Nat → Int → List (List (S72)) → Int → Int → Option ((List (List (S72))) × Int)
 | 0, _, _, _, _ => none
 | k + 1, x0, x4, x13, x14 => if x14 < x13 then (if x0 = 0 then (none) else (ring_Ring.l1 k x0 x4 (([(⟨3, 0, 0, 0, (⟨#[]⟩ : ByteArray)⟩ : S72)] : List (S72))) x13 x14 (Int.tmod (wrap64 (x14 + 1)) x0) 0)) else ((ring_Together.f k x4).bind fun bt1 => (some (bt1.1, bt1.2)))
def ring_Ring.l1 : Nat → Int → List (List (S72)) → List (S72) → Int → Int → Int → Int → Option ((List (List (S72))) × Int)
 | 0, _, _, _, _, _, _, _ => none
 | k + 1, x0, x4, x6, x13, x14, x22, x23 => if x23 < x22 then (if x6.length < 2932031007402 then (ring_Ring.l1 k x0 x4 (x6 ++ [(⟨4, 0, 0, 0, (⟨#[]⟩ : ByteArray)⟩ : S72)]) x13 x14 x22 (wrap64 (x23 + 1))) else (none)) else (if x6.length < 2932031007402 then (if x4.length < 5864062014805 then (ring_Ring.l0 k x0 (x4 ++ [(x6 ++ [(⟨3, 0, 0, 0, (⟨#[]⟩ : ByteArray)⟩ : S72)])]) x13 (wrap64 (x14 + 1))) else (none)) else (none))
end
def ring_Ring.f (k : Nat) (a0 : Int) : Option ((List (List (S72))) × Int) := if a0 < 1 then (ring_Ring.j0 k a0 true) else (ring_Ring.j0 k a0 (decide (a0 > 40)))
set_option maxHeartbeats 8000000 in
set_option maxRecDepth 100000 in
theorem ring_Ring.calls (k : Nat) (a0 : Int) (r1 : List (List (S72))) (r2 : Int) (w : World) (hL : LaidW w) (h : ring_Ring.f k a0 = some (r1, r2)) :
  Calls Tryz.prog 19 #[.int .i64 a0] w fun e w' => ∃ v0_ : Value, e = .returned (.tuple #[v0_, .int .i64 r2]) ∧ Kd.S (Kd.slice 72 k72) 47 w' w.heap.size (fun _ => True) v0_ r1 ∧ Below w.heap.size w w' := by
 have hu72 := Tryz.underlying72
 have HLD := Aside0.mk hL
 clear hL
 have HB := Aside0.mk (Below.refl w.heap.size w)
 have H : (if a0 < 1 then (ring_Ring.j0 k a0 true) else (ring_Ring.j0 k a0 (decide (a0 > 40)))) = some (r1, r2) := h
 clear h
 have HC2 := Aside0.mk H
 clear H
 go_enter Tryz.func19, Tryz.ntmps19
 go_upto_region 1 with (fail)
 go_cut [12] (fun v12 wc => ∃ (kq : Nat) (x12_1 : Bool), v12 = .bool x12_1 ∧ Aside0 (ring_Ring.j0 kq a0 x12_1 = some (r1, r2)) ∧ Aside0 (kq ≤ k) ∧ Aside0 (Below w.heap.size w wc))
 case first =>
  have H := HC2.out
  clear HC2
  by_cases c3 : a0 < 1
  ·rw [if_pos c3] at H
   have c3b0 : decide (a0 < 1) = true := decide_eq_true c3
   clear c3
   (first | rw [c3b0] | (simp only [i64_w, i32_w]; rw [c3b0]) | skip)
   have H' := Aside0.mk H
   clear H
   go_wp2
   go_meet
   case rel => exact ⟨_, (true), (by first | rfl | (simp; done) | (simp [*]; done)), H', ⟨by first | omega | exact Nat.le_refl _⟩, ⟨by repeat (first | (with_reducible first | exact HB.out | apply below_alloc | apply pw_below_drewN | apply below_drew1) | exact HB.out)⟩⟩
  ·rw [if_neg c3] at H
   have c3b0 : decide (a0 < 1) = false := decide_eq_false c3
   clear c3
   (first | rw [c3b0] | (simp only [i64_w, i32_w]; rw [c3b0]) | skip)
   have H' := Aside0.mk H
   clear H
   go_wp2
   go_meet
   case rel => exact ⟨_, (decide (a0 > 40)), (by first | rfl | (simp; done) | (simp [*]; done)), H', ⟨by first | omega | exact Nat.le_refl _⟩, ⟨by repeat (first | (with_reducible first | exact HB.out | apply below_alloc | apply pw_below_drewN | apply below_drew1) | exact HB.out)⟩⟩
 case rest =>
  clear HC2
  try clear c1
  try clear p2
  try clear c3
  try clear c3b0
  obtain ⟨kq, x12_1, rfl, HA, HJ1, HB⟩ := hcut
  cases kq with
  | zero => exact absurd HA.out (by simp [ring_Ring.j0])
  | succ kj1 =>
   have H := HA.out
   clear HA
   simp only [ring_Ring.j0] at H
   by_cases c4 : x12_1 = true
   ·subst c4
    have H1 : (some (([] : List (List (S72))), 2)) = some (r1, r2) := by rw [if_pos rfl] at H; exact H
    clear H
    have H := H1
    clear H1
    simp only [Option.some.injEq, Prod.mk.injEq] at H
    obtain ⟨rfl, rfl⟩ := H
    go_wp2
    go_ret2
    exact ⟨_, by first | rfl | (simp [errW_none, errW_some] <;> rfl) | (simp [*, errW_none, errW_some] <;> rfl), by first | exact Kd.S_nil _ _ _ _ _ | exact Kd.N_nil _ _ _ _ _ | exact Kd.V_nil _ _ _ _ _ | exact Kd.Q_nil _ _ _ _ _ | exact Kd.R_nil _ _ _ _ _, by repeat (first | (with_reducible first | exact HB.out | apply below_alloc | apply pw_below_drewN | apply below_drew1) | exact HB.out)⟩
   ·replace c4 := Bool.eq_false_iff.mpr c4
    subst c4
    have H1 : (ring_Ring.l0 kj1 a0 ([] : List (List (S72))) a0 0) = some (r1, r2) := by rw [if_neg (show ¬ (false = true) by decide)] at H; exact H
    clear H
    have H := H1
    clear H1
    have H' := Aside0.mk H
    clear H
    go_wp2
    go_loopg [4, 14] kj1 (fun kq v4 v14 w' => ∃ (x4_2 : List (List (S72))) (x14_2 : Int), v14 = .int .i64 x14_2 ∧ Aside0 (ring_Ring.l0 kq a0 x4_2 a0 x14_2 = some (r1, r2)) ∧ Aside0 (kq ≤ kj1) ∧ Aside0 (Kd.S (Kd.slice 72 k72) 47 w' w.heap.size (fun _ => True) v4 x4_2) ∧ Aside0 (Below w.heap.size w w'))
    case atStart => exact ⟨(([] : List (List (S72)))), (0), (by first | rfl | (simp; done) | (simp [*]; done)), H', ⟨Nat.le_refl _⟩, ⟨by first | exact Kd.S_nil _ _ _ _ _ | exact Kd.N_nil _ _ _ _ _ | exact Kd.V_nil _ _ _ _ _ | exact Kd.Q_nil _ _ _ _ _ | exact Kd.R_nil _ _ _ _ _⟩, ⟨by repeat (first | (with_reducible first | exact HB.out | apply below_alloc | apply pw_below_drewN | apply below_drew1) | exact HB.out)⟩⟩
    case round =>
     clear H'
     try clear c1
     try clear p2
     try clear c3
     try clear c3b0
     try clear c4
     try clear p2
     obtain ⟨x4_2, x14_2, rfl, HA, HK2, HO_4, HB⟩ := hrel
     cases gk with
     | zero => exact absurd HA.out (by simp [ring_Ring.l0])
     | succ k2 =>
      have H := HA.out
      clear HA
      simp only [ring_Ring.l0] at H
      by_cases c5 : x14_2 < a0
      ·rw [if_pos c5] at H
       have c5b0 : decide (x14_2 < a0) = true := decide_eq_true c5
       clear c5
       obtain ⟨y5, hy5⟩ : ∃ y_ : List (S72), y_ = (([(⟨3, 0, 0, 0, (⟨#[]⟩ : ByteArray)⟩ : S72)] : List (S72))) := ⟨_, rfl⟩
       replace H : (if a0 = 0 then (none) else (ring_Ring.l1 k2 a0 x4_2 y5 a0 x14_2 (Int.tmod (wrap64 (x14_2 + 1)) a0) 0)) = some (r1, r2) := by first | (rw [hy5]; with_reducible exact H) | (have H2_ := (Option.bind_some _ _).symm.trans H; rw [hy5]; with_reducible exact H2_) | (have H2_ := (Option.bind_some _ _).symm.trans H; with_reducible exact H2_) | with_reducible exact H | (rw [hy5]; exact H) | exact H
       have Ny5 := Aside0.mk hy5
       clear hy5
       by_cases c6 : a0 = 0
       ·rw [if_pos c6] at H
        exact absurd H (by simp)
       ·rw [if_neg c6] at H
        have c6b0 : (a0 == 0) = false := beq_eq_false_iff_ne.mpr c6
        have c6b1 : (a0 != 0) = true := bne_iff_ne.mpr c6
        have H' := Aside0.mk H
        clear H
        go_wp2_with (first | ((with_reducible refine gate_dst (N := 18) rfl ?_); refine Kd.R_lit k72 _ 72 ?hg (N := 18) ?hd (xs := ([(⟨3, 0, 0, 0, (⟨#[]⟩ : ByteArray)⟩ : S72)] : List (S72))) (inner := [.int .i64 3, .int .i64 0, .int .i64 0, .int .i64 0, .string (⟨#[]⟩ : ByteArray)]) (ok := fun _ => True) (okp := fun _ => True) ?hr ?hp (fun _ hk => hk) trivial (Below.refl _ _) (Nat.le_refl _) (by simp) ?_; (case hd => rfl); (case hg => rfl); (case hr => first | (go_simp; done) | (go_simp; rfl)); (case hp => exact (Reps.c5 (show Kd.M k72 _ _ _ (⟨3, 0, 0, 0, (⟨#[]⟩ : ByteArray)⟩ : S72) [.int .i64 3, .int .i64 0, .int .i64 0, .int .i64 0, .string (⟨#[]⟩ : ByteArray)] from (k72_mkM _ _ _ (⟨3, 0, 0, 0, (⟨#[]⟩ : ByteArray)⟩ : S72) )) (Reps.none _ _))); intro v6 w7 ho8 hb hg_ hnew_; clear hg_ hnew_; (first | rw [← Ny5.out] at ho8 | (simp only [Int.reduceToNat] at ho8; rw [← Ny5.out] at ho8)); have n0_ := Aside0.mk (Kd.S_elder' (by (with_reducible repeat (first | apply Kd.S_alloc | apply Kd.S_drewN | apply Kd.S_drew)); exact HO_4.out) (Kd.R_base ho8) hb); have n1_ := Aside0.mk (Kd.R_lower ho8 (below_size (by repeat (first | (with_reducible first | exact HB.out | apply below_alloc | apply pw_below_drewN | apply below_drew1) | exact HB.out)))); have n2_ := Aside0.mk (below_step (by repeat (first | (with_reducible first | exact HB.out | apply below_alloc | apply pw_below_drewN | apply below_drew1) | exact HB.out)) hb); clear HO_4; clear HB; have HO_4 := n0_; have HO7 := n1_; have HB := n2_; clear n0_ n1_ n2_; clear hb ho8))
        go_loopg [6, 23] k2 (fun kq v6 v23 w' => ∃ (x6_3 : List (S72)) (x23_3 : Int), v23 = .int .i64 x23_3 ∧ Aside0 (ring_Ring.l1 kq a0 x4_2 x6_3 a0 x14_2 (Int.tmod (wrap64 (x14_2 + 1)) a0) x23_3 = some (r1, r2)) ∧ Aside0 (kq ≤ k2) ∧ Aside0 (Kd.S (Kd.slice 72 k72) 47 w' w.heap.size (fun k_ => some k_ ≠ (v6 : Value).ownBlock) u4 x4_2) ∧ Aside0 (Kd.R k72 72 w' w.heap.size (fun _ => True) v6 x6_3) ∧ Aside0 (Below w.heap.size w w'))
        case atStart => exact ⟨(y5), (0), (by first | rfl | (simp; done) | (simp [*]; done)), H', ⟨Nat.le_refl _⟩, ⟨by (with_reducible repeat (first | apply Kd.S_alloc | apply Kd.S_drewN | apply Kd.S_drew)); exact Kd.S_mono HO_4.out (fun _ hk => hk.2)⟩, ⟨by (with_reducible repeat (first | apply Kd.R_alloc | apply Kd.R_drewN | apply Kd.R_drew)); exact HO7.out⟩, ⟨by repeat (first | (with_reducible first | exact HB.out | apply below_alloc | apply pw_below_drewN | apply below_drew1) | exact HB.out)⟩⟩
        case round =>
         clear H'
         try clear c1
         try clear p2
         try clear c3
         try clear c3b0
         try clear c4
         try clear c5
         try clear c5b0
         try clear c6
         try clear c6b0
         try clear c6b1
         try clear p6
         try clear p2
         obtain ⟨x6_3, x23_3, rfl, HA, HK3, HO_4, HO_6, HB⟩ := hrel
         cases gk with
         | zero => exact absurd HA.out (by simp [ring_Ring.l1])
         | succ k3 =>
          have H := HA.out
          clear HA
          simp only [ring_Ring.l1] at H
          by_cases c9 : x23_3 < (Int.tmod (wrap64 (x14_2 + 1)) a0)
          ·rw [if_pos c9] at H
           have c9b0 : decide (x23_3 < (Int.tmod (wrap64 (x14_2 + 1)) a0)) = true := decide_eq_true c9
           clear c9
           by_cases c10 : x6_3.length < 2932031007402
           ·rw [if_pos c10] at H
            have LMc10 := Aside0.mk c10
            clear c10
            obtain ⟨y8, hy8⟩ : ∃ y_ : List (S72), y_ = (x6_3 ++ [(⟨4, 0, 0, 0, (⟨#[]⟩ : ByteArray)⟩ : S72)]) := ⟨_, rfl⟩
            replace H : (ring_Ring.l1 k3 a0 x4_2 y8 a0 x14_2 (Int.tmod (wrap64 (x14_2 + 1)) a0) (wrap64 (x23_3 + 1))) = some (r1, r2) := by first | (rw [hy8]; with_reducible exact H) | (have H2_ := (Option.bind_some _ _).symm.trans H; rw [hy8]; with_reducible exact H2_) | (have H2_ := (Option.bind_some _ _).symm.trans H; with_reducible exact H2_) | with_reducible exact H | (rw [hy8]; exact H) | exact H
            have Ny8 := Aside0.mk hy8
            clear hy8
            have H' := Aside0.mk H
            clear H
            go_wp2_with (first | ((with_reducible refine gate_builtin (b := .append) (xs := #[.tmp 25, .tmp 27]) rfl ?_); at_builtin; refine Kd.R_append k72 (w0 := w) w.heap.size rfl (.tmp 25) (.tmp 27) 47 72 (.agg #[(.int .i64 0), (.int .i64 0), (.int .i64 0), (.int .i64 0), (.string ⟨#[]⟩)]) 48 rfl Tryz.underlying47 info72 rfl (by decide) (by omega) u6 x6_3 (⟨4, 0, 0, 0, (⟨#[]⟩ : ByteArray)⟩ : S72) [.int .i64 4, .int .i64 0, .int .i64 0, .int .i64 0, .string (⟨#[]⟩ : ByteArray)] (fun _ => True) (fun _ => False) rfl rfl ?aP (fun _ hk => hk.elim) ?aF ?aO ?aB ?aS ?aL ?_; (case aP => exact k72_mkM _ _ _ (⟨4, 0, 0, 0, (⟨#[]⟩ : ByteArray)⟩ : S72)); (case aB => exact (by repeat (first | (with_reducible first | exact HB.out | apply below_alloc | apply pw_below_drewN | apply below_drew1) | exact HB.out))); (case aF => exact (fun _ _ => trivial)); (case aO => exact (by (with_reducible repeat (first | apply Kd.R_alloc | apply Kd.R_drewN | apply Kd.R_drew)); exact HO_6.out)); (case aS => exact (below_size (by repeat (first | (with_reducible first | exact HB.out | apply below_alloc | apply pw_below_drewN | apply below_drew1) | exact HB.out)))); (case aL => have := LMc10.out; first | omega | (simp only [lit_size, List.size_toArray, List.length_cons, List.length_nil]; omega)); intro v9 w11 ho hb hg hat; rw [← Ny8.out] at ho; have n0_ := Aside0.mk (Kd.S_after (ok := (fun _ => True)) (by (with_reducible repeat (first | apply Kd.S_alloc | apply Kd.S_drewN | apply Kd.S_drew)); exact Kd.S_mono HO_4.out (fun _ hk => ⟨trivial, hk⟩)) hg hat); have n1_ := Aside0.mk (hb); have n2_ := Aside0.mk (ho); clear HO_4; clear HB; clear HO_6; have HO_4 := n0_; have HB := n1_; have HO10 := n2_; clear n0_ n1_ n2_; clear ho hb hg hat))
            go_roundg k3
            case measure => have := HJ1.out; have := HK2.out; have := HK3.out; omega
            case rel => exact ⟨(y8), (wrap64 (x23_3 + 1)), (by first | rfl | (simp; done) | (simp [*]; done)), H', ⟨by have := HJ1.out; have := HK2.out; have := HK3.out; omega⟩, ⟨by (with_reducible repeat (first | apply Kd.S_alloc | apply Kd.S_drewN | apply Kd.S_drew)); exact Kd.S_mono HO_4.out (fun _ hk => hk.2)⟩, ⟨by (with_reducible repeat (first | apply Kd.R_alloc | apply Kd.R_drewN | apply Kd.R_drew)); exact HO10.out⟩, ⟨by repeat (first | (with_reducible first | exact HB.out | apply below_alloc | apply pw_below_drewN | apply below_drew1) | exact HB.out)⟩⟩
           ·rw [if_neg c10] at H
            exact absurd H (by simp)
          ·rw [if_neg c9] at H
           have c9b0 : decide (x23_3 < (Int.tmod (wrap64 (x14_2 + 1)) a0)) = false := decide_eq_false c9
           clear c9
           by_cases c12 : x6_3.length < 2932031007402
           ·rw [if_pos c12] at H
            have LMc12 := Aside0.mk c12
            clear c12
            obtain ⟨y11, hy11⟩ : ∃ y_ : List (S72), y_ = (x6_3 ++ [(⟨3, 0, 0, 0, (⟨#[]⟩ : ByteArray)⟩ : S72)]) := ⟨_, rfl⟩
            replace H : (if x4_2.length < 5864062014805 then (ring_Ring.l0 k3 a0 (x4_2 ++ [y11]) a0 (wrap64 (x14_2 + 1))) else (none)) = some (r1, r2) := by first | (rw [hy11]; with_reducible exact H) | (have H2_ := (Option.bind_some _ _).symm.trans H; rw [hy11]; with_reducible exact H2_) | (have H2_ := (Option.bind_some _ _).symm.trans H; with_reducible exact H2_) | with_reducible exact H | (rw [hy11]; exact H) | exact H
            have Ny11 := Aside0.mk hy11
            clear hy11
            by_cases c13 : x4_2.length < 5864062014805
            ·rw [if_pos c13] at H
             have LMc13 := Aside0.mk c13
             clear c13
             obtain ⟨y14, hy14⟩ : ∃ y_ : List (List (S72)), y_ = (x4_2 ++ [y11]) := ⟨_, rfl⟩
             replace H : (ring_Ring.l0 k3 a0 y14 a0 (wrap64 (x14_2 + 1))) = some (r1, r2) := by first | (rw [hy14]; with_reducible exact H) | (have H2_ := (Option.bind_some _ _).symm.trans H; rw [hy14]; with_reducible exact H2_) | (have H2_ := (Option.bind_some _ _).symm.trans H; with_reducible exact H2_) | with_reducible exact H | (rw [hy14]; exact H) | exact H
             have Ny14 := Aside0.mk hy14
             clear hy14
             have H' := Aside0.mk H
             clear H
             go_wp2_with (first | ((with_reducible refine gate_builtin (b := .append) (xs := #[.tmp 31, .tmp 33]) rfl ?_); at_builtin; refine Kd.R_append k72 (w0 := w) w.heap.size rfl (.tmp 31) (.tmp 33) 47 72 (.agg #[(.int .i64 0), (.int .i64 0), (.int .i64 0), (.int .i64 0), (.string ⟨#[]⟩)]) 48 rfl Tryz.underlying47 info72 rfl (by decide) (by omega) u6 x6_3 (⟨3, 0, 0, 0, (⟨#[]⟩ : ByteArray)⟩ : S72) [.int .i64 3, .int .i64 0, .int .i64 0, .int .i64 0, .string (⟨#[]⟩ : ByteArray)] (fun _ => True) (fun _ => False) rfl rfl ?aP (fun _ hk => hk.elim) ?aF ?aO ?aB ?aS ?aL ?_; (case aP => exact k72_mkM _ _ _ (⟨3, 0, 0, 0, (⟨#[]⟩ : ByteArray)⟩ : S72)); (case aB => exact (by repeat (first | (with_reducible first | exact HB.out | apply below_alloc | apply pw_below_drewN | apply below_drew1) | exact HB.out))); (case aF => exact (fun _ _ => trivial)); (case aO => exact (by (with_reducible repeat (first | apply Kd.R_alloc | apply Kd.R_drewN | apply Kd.R_drew)); exact HO_6.out)); (case aS => exact (below_size (by repeat (first | (with_reducible first | exact HB.out | apply below_alloc | apply pw_below_drewN | apply below_drew1) | exact HB.out)))); (case aL => have := LMc12.out; first | omega | (simp only [lit_size, List.size_toArray, List.length_cons, List.length_nil]; omega)); intro v12 w14 ho hb hg hat; rw [← Ny11.out] at ho; have n0_ := Aside0.mk (Kd.S_after (ok := (fun _ => True)) (by (with_reducible repeat (first | apply Kd.S_alloc | apply Kd.S_drewN | apply Kd.S_drew)); exact Kd.S_mono HO_4.out (fun _ hk => ⟨trivial, hk⟩)) hg hat); have n1_ := Aside0.mk (hb); have n2_ := Aside0.mk (ho); clear HO_4; clear HB; clear HO_6; have HO_4 := n0_; have HB := n1_; have HO13 := n2_; clear n0_ n1_ n2_; clear ho hb hg hat; obtain ⟨Ao16, co16, eo16⟩ := Kd.R_slice HO13.out; subst eo16) | ((with_reducible refine gate_builtin (b := .append) (xs := #[.tmp 30, .tmp 35]) rfl ?_); at_builtin; refine Kd.S_append (Kd.slice 72 k72) (w0 := w) w.heap.size rfl (.tmp 30) (.tmp 35) 22 47 (.slice none 0 0) 24 rfl Tryz.underlying22 info47 rfl (by decide) (by omega) u4 x4_2 y11 [.slice Ao16 y11.length co16] (fun _ => True) (fun k_ => some k_ = (.slice Ao16 y11.length co16 : Value).ownBlock) rfl rfl ?aP (fun k_ hk_ => ((Kd.R_mono (ok' := fun k_ => ((fun _ => True)) k_ ∧ some k_ ≠ (u4 : Value).ownBlock) (Kd.R_apart' (HO13.out) (Kd.S_typed HO_4.out) (by decide)) (fun k_ hk => ⟨trivial, hk.2⟩))).1 k_ hk_.symm) ?aF ?aO ?aB ?aS ?aL ?_; (case aP => exact Kd.M_row (Kd.R_mono (Kd.R_tight rfl (Kd.R_mono (ok' := fun k_ => ((fun _ => True)) k_ ∧ some k_ ≠ (u4 : Value).ownBlock) (Kd.R_apart' (HO13.out) (Kd.S_typed HO_4.out) (by decide)) (fun k_ hk => ⟨trivial, hk.2⟩))) (fun _ h_ => h_))); (case aB => exact (by repeat (first | (with_reducible first | exact HB.out | apply below_alloc | apply pw_below_drewN | apply below_drew1) | exact HB.out))); (case aF => exact (fun _ _ => trivial)); (case aO => exact (by (with_reducible repeat (first | apply Kd.S_alloc | apply Kd.S_drewN | apply Kd.S_drew)); exact Kd.S_mono HO_4.out (fun k_ hk => ⟨trivial, fun e_ => hk.2 e_⟩))); (case aS => exact (below_size (by repeat (first | (with_reducible first | exact HB.out | apply below_alloc | apply pw_below_drewN | apply below_drew1) | exact HB.out)))); (case aL => have := LMc13.out; first | omega | (simp only [lit_size, List.size_toArray, List.length_cons, List.length_nil]; omega)); intro v15 w15 ho hb hg hat; rw [← Ny14.out] at ho; have n0_ := Aside0.mk (hb); have n1_ := Aside0.mk (ho); clear HB; clear HO_4; clear HO13; have HB := n0_; have HO16 := n1_; clear n0_ n1_; clear ho hb hg hat))
             go_roundg k3
             case measure => have := HJ1.out; have := HK2.out; have := HK3.out; omega
             case rel => exact ⟨(y14), (wrap64 (x14_2 + 1)), (by first | rfl | (simp; done) | (simp [*]; done)), H', ⟨by have := HJ1.out; have := HK2.out; have := HK3.out; omega⟩, ⟨by (with_reducible repeat (first | apply Kd.S_alloc | apply Kd.S_drewN | apply Kd.S_drew)); exact HO16.out⟩, ⟨by repeat (first | (with_reducible first | exact HB.out | apply below_alloc | apply pw_below_drewN | apply below_drew1) | exact HB.out)⟩⟩
            ·rw [if_neg c13] at H
             exact absurd H (by simp)
           ·rw [if_neg c12] at H
            exact absurd H (by simp)
      ·rw [if_neg c5] at H
       have c5b0 : decide (x14_2 < a0) = false := decide_eq_false c5
       clear c5
       replace H := Option.bind_eq_some_iff.mp H
       obtain ⟨⟨t1, t2⟩, A170, H⟩ := H
       replace H : (some (t1, t2)) = some (r1, r2) := H
       have A17 := Aside0.mk A170
       clear A170
       simp only [Option.some.injEq, Prod.mk.injEq] at H
       obtain ⟨rfl, rfl⟩ := H
       obtain ⟨Ao18, co18, eo18⟩ := Kd.S_slice HO_4.out
       subst eo18
       go_wp2_with (first | ((with_reducible refine gate_callee (f := 15) rfl ?_); refine goesL_ (some 39) rfl rfl Tryz.func15 (by kernel_rfl) rfl #[.slice Ao18 x4_2.length co18] rfl (by (try simp only [List.map_toArray, List.map_cons, List.map_nil]); first | done | rfl | (simp only [List.length_drop, List.length_take]; rfl)) ?_; (with_reducible refine (ring_Together.calls k2 _ _ x4_2 t1 t2 _ ?side1 ?side2 ?side3 A17.out).mono ?_); (case side1 => repeat (first | exact (Kd.S_reads' HO_4.out).2.2 | (with_reducible refine Kd.C_alloc ?_ _) | (with_reducible refine Kd.C_drewN ?_ _) | (with_reducible refine Kd.C_drew ?_))); (case side2 => exact (Kd.S_reads' HO_4.out).2.1); (case side3 => first | (refine LaidW.below HLD.out ?_; with_reducible exact HB.out) | (refine LaidW.below HLD.out ?_; with_reducible apply pw_below_drewN; with_reducible exact HB.out) | (refine LaidW.below HLD.out ?_; with_reducible apply below_alloc; with_reducible exact HB.out) | (refine LaidW.below HLD.out ?_; repeat (first | (with_reducible first | exact HB.out | apply below_alloc | apply pw_below_drewN | apply below_drew1) | exact HB.out); done) | exact HLD.out | (repeat (first | exact HLD.out | (with_reducible refine LaidW.drewN ?_ _) | (with_reducible refine LaidW.drew ?_) | (with_reducible refine LaidW.alloc ?_ _)))); rintro e w19 ⟨v3, rfl, ho0, hb⟩; refine ⟨_, rfl, ?_⟩; have n0_ := Aside0.mk (Kd.S_elder' (by (with_reducible repeat (first | apply Kd.S_alloc | apply Kd.S_drewN | apply Kd.S_drew)); exact HO_4.out) (Kd.S_base ho0) hb); have n1_ := Aside0.mk (Kd.S_lower (Kd.S_new' ho0 (Kd.S_lt (by (with_reducible repeat (first | apply Kd.S_alloc | apply Kd.S_drewN | apply Kd.S_drew)); exact HO_4.out))) (below_size (by repeat (first | (with_reducible first | exact HB.out | apply below_alloc | apply pw_below_drewN | apply below_drew1) | exact HB.out)))); have n2_ := Aside0.mk (below_step (by repeat (first | (with_reducible first | exact HB.out | apply below_alloc | apply pw_below_drewN | apply below_drew1) | exact HB.out)) hb); clear HO_4; clear HB; have HO_4 := n0_; have HO4 := n1_; have HB := n2_; clear n0_ n1_ n2_; (try clear hb); (try clear hb2); (try clear hk); (try clear hi); (try clear ho0)))
       go_ret2
       exact ⟨_, by first | rfl | (simp [errW_none, errW_some] <;> rfl) | (simp [*, errW_none, errW_some] <;> rfl), by (with_reducible repeat (first | apply Kd.S_alloc | apply Kd.S_drewN | apply Kd.S_drew)); exact Kd.S_mono HO4.out (fun _ hk => trivial), by repeat (first | (with_reducible first | exact HB.out | apply below_alloc | apply pw_below_drewN | apply below_drew1) | exact HB.out)⟩
end Go.Proofs.YtocoamgbpoommaaGreatDoor.C
end
section
namespace Go.Proofs.YtocoamgbpoommaaGreatDoor.Plain
open Go.Proofs.YtocoamgbpoommaaGreatDoor.C
open Go.RowKit Go.Proofs.YtocoamgbpoommaaGreatDoorW.PrintWords Go.Proofs.YtocoamgbpoommaaGreatDoorW.PrintLast Go.Proofs.YtocoamgbpoommaaGreatDoorW.PrintMore
set_option linter.unusedVariables false
set_option linter.unusedSimpArgs false
abbrev iHead : Ins := ⟨3, 0, 0, 0, ⟨#[]⟩⟩
abbrev iTail : Ins := ⟨4, 0, 0, 0, ⟨#[]⟩⟩
def turns (n : Nat) : List (List Ins) := (List.range n).map (turnP n)
theorem turns_length (n : Nat) : (turns n).length = n := by unfold turns; simp
theorem tmod_nat (a n : Nat) : Int.tmod (a : Int) (n : Int) = ((a % n : Nat) : Int) := rfl
theorem range_drop {n i : Nat} (h : i < n) : (List.range n).drop i = i :: (List.range n).drop (i + 1) := by
  rw [List.drop_eq_getElem_cons (by simpa using h)]; simp
theorem ring_l1 (n i : Nat) (hn : 0 < n) (hn2 : n ≤ 40) (hi : i < n) (acc : List (List Ins)) (ha : acc.length = i) : ∀ (d k j : Nat) (p : List Ins), (i + 1) % n - j = d → j ≤ (i + 1) % n → d < k → p.length ≤ j + 1 →
    ring_Ring.l1 k n acc p n i (((i + 1) % n : Nat) : Int) (j : Int) = ring_Ring.l0 (k - d - 1) n (acc ++ [p ++ (List.replicate d iTail ++ [iHead])]) n (i + 1 : Nat)
  | d, k, j, p, hd, hj, hk, hp => by
    obtain ⟨k, rfl⟩ : ∃ m, k = m + 1 := ⟨k - 1, by omega⟩
    have hm : (i + 1) % n < n := Nat.mod_lt _ hn
    rw [ring_Ring.l1]
    by_cases hlt : j < (i + 1) % n
    · rw [if_pos (by omega), if_pos (by omega), wrap_small (by omega) (by omega), show (j : Int) + 1 = ((j + 1 : Nat) : Int) from rfl]
      rw [ring_l1 n i hn hn2 hi acc ha ((i + 1) % n - (j + 1)) k (j + 1) _ rfl (by omega) (by omega) (by rw [List.length_append, List.length_singleton]; omega)]
      obtain ⟨e, rfl⟩ : ∃ e, d = e + 1 := ⟨d - 1, by omega⟩
      rw [show (i + 1) % n - (j + 1) = e from by omega, show k + 1 - (e + 1) - 1 = k - e - 1 from by omega, List.append_assoc, List.replicate_succ]
      rfl
    · obtain rfl : d = 0 := by omega
      rw [if_neg (by omega), if_pos (by omega), if_pos (by omega), wrap_small (by omega) (by omega)]
      rfl
  termination_by d => d
theorem ring_l0 (n : Nat) (hn : 0 < n) (hn2 : n ≤ 40) : ∀ (d k i : Nat) (acc : List (List Ins)), n - i = d → i ≤ n → d * 50 + 12000 < k → acc.length = i →
    ∃ k', 12000 ≤ k' ∧ ring_Ring.l0 k n acc n (i : Int) = ring_Together.f k' (acc ++ ((List.range n).drop i).map (turnP n))
  | d, k, i, acc, hd, hi, hk, ha => by
    obtain ⟨k, rfl⟩ : ∃ m, k = m + 1 := ⟨k - 1, by omega⟩
    by_cases hlt : i < n
    · have hm : (i + 1) % n < n := Nat.mod_lt _ hn
      obtain ⟨e, rfl⟩ : ∃ e, d = e + 1 := ⟨d - 1, by omega⟩
      have hw : wrap64 ((i : Int) + 1) = ((i + 1 : Nat) : Int) := by rw [wrap_small (by omega) (by omega)]; rfl
      have h1 := ring_l1 n i hn hn2 hlt acc ha ((i + 1) % n) k 0 [iHead] rfl (Nat.zero_le _) (by omega) (by simp)
      rw [show ((0 : Nat) : Int) = 0 from rfl] at h1
      obtain ⟨k', hk', e2⟩ := ring_l0 n hn hn2 e (k - (i + 1) % n - 1) (i + 1) (acc ++ [[iHead] ++ (List.replicate ((i + 1) % n) iTail ++ [iHead])]) (by omega) (by omega) (by omega) (by rw [List.length_append, List.length_singleton]; omega)
      refine ⟨k', hk', ?_⟩
      rw [ring_Ring.l0, if_pos (by omega), if_neg (by omega), hw, tmod_nat, h1, e2, range_drop hlt]
      simp [turnP]
    · refine ⟨k, by omega, ?_⟩
      rw [ring_Ring.l0, if_neg (by omega), List.drop_eq_nil_of_le (by simp; omega), List.map_nil, List.append_nil]
      cases ring_Together.f k acc <;> rfl
  termination_by d => d
theorem ring_tells (n : Nat) (hn : 0 < n) (hn2 : n ≤ 40) (k : Nat) (hk : 16000 ≤ k) : ∃ k', 12000 ≤ k' ∧ ring_Ring.f k (n : Int) = ring_Together.f k' (turns n) := by
  obtain ⟨k, rfl⟩ : ∃ m, k = m + 1 := ⟨k - 1, by omega⟩
  obtain ⟨k', hk', e⟩ := ring_l0 n hn hn2 n k 0 [] rfl (Nat.zero_le _) (by omega) rfl
  rw [show ((0 : Nat) : Int) = 0 from rfl] at e
  refine ⟨k', hk', ?_⟩
  unfold ring_Ring.f
  rw [if_neg (by omega), ring_Ring.j0, if_neg (by simp; omega), e]
  simp [turns]
theorem turn_ins (n j : Nat) : ∀ x ∈ turnP n j, (x.f0 = 3 ∨ x.f0 = 4) ∧ x.f1 = 0 ∧ x.f2 = 0 ∧ x.f3 = 0 ∧ x.f4 = ⟨#[]⟩ := by
  intro x hx
  unfold turnP at hx
  simp only [List.mem_cons, List.mem_append, List.mem_replicate, List.not_mem_nil, or_false] at hx
  rcases hx with rfl | ⟨_, rfl⟩ | rfl
  · exact ⟨.inl rfl, rfl, rfl, rfl, rfl⟩
  · exact ⟨.inr rfl, rfl, rfl, rfl, rfl⟩
  · exact ⟨.inl rfl, rfl, rfl, rfl, rfl⟩
theorem vi_turn (n j : Nat) : VI (turnP n j) := by
  intro i hi
  obtain ⟨h0, h1, h2, h3, h4⟩ := turn_ins n j _ (List.getElem_mem hi)
  refine .inr (.inl ⟨by omega, ?_, ?_, h3, by rw [h4]⟩)
  · rw [h1]; exact ⟨by decide, by decide⟩
  · rw [h2]; exact ⟨by decide, by decide⟩
theorem sizes_zero : ∀ p : List Ins, (∀ x ∈ p, x.f4 = ⟨#[]⟩) → sizes p = 0
  | [], _ => rfl
  | x :: p, h => by
    have ih := sizes_zero p fun y hy => h y (List.mem_cons_of_mem _ hy)
    unfold sizes at *
    rw [List.map_cons, List.sum_cons, ih, h x List.mem_cons_self]
    rfl
theorem turn_size (n j : Nat) : sizes (turnP n j) = 0 := sizes_zero _ fun x hx => (turn_ins n j x hx).2.2.2.2
theorem okp_turn (n j : Nat) (hn : 0 < n) (h : n ≤ 40) : OKP (turnP n j) := by
  have hm : (j + 1) % n < n := Nat.mod_lt _ hn
  exact okp_iff.2 ⟨by unfold turnP; simp; omega, by rw [turn_size]; omega, vi_turn n j⟩
theorem okp_turns (n : Nat) (hn : 0 < n) (h : n ≤ 40) : ∀ p ∈ turns n, OKP p := by
  intro p hp
  obtain ⟨j, _, rfl⟩ := List.mem_map.1 hp
  exact okp_turn n j hn h
end Go.Proofs.YtocoamgbpoommaaGreatDoor.Plain
end
section
namespace Go.Proofs.YtocoamgbpoommaaGreatDoor.Plain
open Go.Proofs.YtocoamgbpoommaaGreatDoor.C
open Go.RowKit Go.Proofs.YtocoamgbpoommaaGreatDoorW.PrintWords Go.Proofs.YtocoamgbpoommaaGreatDoorW.PrintLast Go.Proofs.YtocoamgbpoommaaGreatDoorW.PrintMore
set_option linter.unusedVariables false
set_option linter.unusedSimpArgs false
theorem dec_codeL {p : List Ins} (h : OKP p) : dec (codeL p) = codeT p := by rw [← codeT_enc (okp_nice h), dec_enc]
theorem codeT_size {p : List Ins} (h : OKP p) : (codeT p).size = (codeL p).length := by rw [← Tr.enc_length, codeT_enc (okp_nice h)]
theorem turns_one : turns 1 = [[iHead, iHead]] := rfl
theorem sizes_spec (y : ByteArray) : sizes (specHead y) = y.size + 1 := rfl
def ringOne : List Ins := specHead (bs (tabL (behind (turns 1)))) ++ ringHead ++ [iHead, iHead]
theorem made_one : madeL (behind (turns 1)) = [ringOne] := by
  rw [turns_one]
  simp [madeL, behind, ringOne, turns_one]
set_option maxRecDepth 100000 in
theorem one_code : (codeL (ringHead ++ [iHead, iHead])).length ≤ 5000 := by decide +kernel
theorem one_tab : (tabL (behind (turns 1))).length ≤ 5002 := by
  rw [tabL_length, turns_one]
  have := one_code
  simp only [behind, List.map_cons, List.map_nil, lsum]
  omega
theorem one_good : GoodL (behind (turns 1)) := by
  have hc := one_code
  rw [turns_one]
  refine ⟨fun e he => ?_, ?_⟩
  · simp only [behind, List.map_cons, List.map_nil, List.mem_singleton] at he
    subst he
    exact okp_iff.2 ⟨by decide, by decide +kernel, vi_append vi_ringHead (vi_turn 1 0)⟩
  · simp only [behind, List.map_cons, List.map_nil, lsum]
    omega
theorem one_okp : OKP ringOne := by
  have hv : VI ringOne := by
    unfold ringOne
    rw [List.append_assoc]
    exact vi_append (vi_specHead (validT_tab one_good)) (vi_append vi_ringHead (vi_turn 1 0))
  refine okp_iff.2 ⟨by decide, ?_, hv⟩
  have h1 : sizes ringOne = sizes (specHead (bs (tabL (behind (turns 1))))) + sizes (ringHead ++ [iHead, iHead]) := by
    unfold ringOne sizes
    rw [List.append_assoc, List.map_append, List.sum_append]
  have h2 : sizes (ringHead ++ [iHead, iHead]) ≤ 1000 := by decide +kernel
  have h3 : sizes (specHead (bs (tabL (behind (turns 1))))) = (tabL (behind (turns 1))).length + 1 := by
    rw [sizes_spec, bs_size]
  have := one_tab
  omega
theorem one_codeT : codeT ringOne = cellT (dec (tabL (behind (turns 1)))) (codeT (ringHead ++ [iHead, iHead])) := by
  unfold ringOne
  rw [List.append_assoc, codeT_spec, bl_bs]
theorem one_size : (codeT ringOne).size ≤ 11000 := by
  have h1 := one_tab
  have h2 := one_code
  have hT : IsT (tabL (behind (turns 1))) := by have := (validT_tab one_good).2; rwa [bl_bs] at this
  have h3 : (dec (tabL (behind (turns 1)))).size = (tabL (behind (turns 1))).length := by rw [← Tr.enc_length, enc_dec hT]
  have hr : OKP (ringHead ++ [iHead, iHead]) := one_good.1 _ (by rw [turns_one]; exact List.mem_singleton.2 rfl)
  have h4 := codeT_size hr
  rw [one_codeT]
  generalize dec (tabL (behind (turns 1))) = Y at *
  generalize codeT (ringHead ++ [iHead, iHead]) = c at *
  show 1 + (1 + 1 + (1 + 3 + Y.size)) + (1 + 13 + (1 + 7 + c.size)) ≤ 11000
  omega
theorem one_len : (codeL ringOne).length ≤ 2000000 := by
  rw [← codeT_size one_okp]
  have := one_size
  omega
theorem one_fine : Fine (turns 1) := by
  refine ⟨one_good, ?_, ?_⟩
  · intro e he
    rw [made_one] at he
    rw [List.mem_singleton.1 he]
    exact one_okp
  · rw [made_one]
    have := one_size
    rw [codeT_size one_okp] at this
    simp only [lsum]
    omega
theorem one_run : runM ringOne .nil 100 = (codeT ringOne, 37, 0) := by
  have hn : ∀ p ∈ turns 1, ∀ x ∈ ringHead ++ p, Nice x := fun p hp => okp_nice (one_good.1 _ (List.mem_map.2 ⟨p, hp, rfl⟩))
  have hm : [iHead, iHead] ∈ turns 1 := by rw [turns_one]; exact List.mem_singleton.2 rfl
  have hall : (madeL ((turns 1).map fun p => ringHead ++ p)).map codeT = [codeT ringOne] := by
    rw [show (turns 1).map (fun p => ringHead ++ p) = behind (turns 1) from rfl, made_one]; rfl
  have hsz := one_size
  have hb := ring_begins (turns 1) hn [iHead, iHead] hm .nil (by rw [hall]; show 1 + (1 + (codeT ringOne).size + 1) + 1 ≤ _; omega)
  rw [hall, turns_length] at hb
  have ht := turn_run 1 0 [codeT ringOne] .nil (by omega) rfl 65 (by omega)
  have hr := run_behind (pre := specHead (bs (tabL (behind (turns 1)))) ++ ringHead) (p := turnP 1 0) (m := 35) (x := .nil) (y := .cons (lstT [codeT ringOne]) .nil) (fun j hj => by
    have := vi_turn 1 0 j hj
    rw [List.getD_eq_getElem?_getD, List.getElem?_eq_getElem hj]
    exact this) hb 65
  rw [ht] at hr
  exact hr
theorem awake_is (k : Nat) (hk : 16000 ≤ k) : ring_Ring.f k 1 = some ([ringOne], 0) := by
  obtain ⟨k', hk', e⟩ := ring_tells 1 (by omega) (by omega) k hk
  rw [show (1 : Int) = ((1 : Nat) : Int) from rfl, e, together_yes (okp_turns 1 (by omega) (by omega)) (by rw [turns_length]; omega) (by rw [turns_length]; omega) one_fine k' (by omega), made_one]
end Go.Proofs.YtocoamgbpoommaaGreatDoor.Plain
end
section
namespace Go.Proofs.YtocoamgbpoommaaGreatDoor.C
open Go.RowKit Go.Proofs.YtocoamgbpoommaaGreatDoorW.PrintWords Go.Proofs.YtocoamgbpoommaaGreatDoorW.PrintLast Go.Proofs.YtocoamgbpoommaaGreatDoorW.PrintMore
open Go.Proofs.YtocoamgbpoommaaGreatDoor.Plain (Tr dec OKP codeL codeT codeT_enc okp_nice isT_codeL refValidp_yes okp_fits refCoded_yes bs bl_bs bs_size runM dec_enc dec_codeL codeT_size)
set_option linter.unusedVariables false
set_option linter.unusedSimpArgs false
set_option maxHeartbeats 2000000 in
set_option maxRecDepth 100000 in
theorem Coded_calls (A : Option Addr) (c : Nat) (p : Prg) (w : World) (hC : Kd.C k72 w A p.length p) (hc : p.length ≤ c) (hp : OKP p) (hz : (codeL p).length ≤ 2000000) :
    Calls Tryz.prog 26 #[.slice A p.length c] w fun e w' => ∃ v, e = .returned (.tuple #[v, .bool true]) ∧ Nd w' (codeT p) v ∧ Below w.heap.size w w' := by
  have hv := refValidp_yes (k := 5000000) (okp_fits hp) (by omega) hp
  have hk := refCoded_yes hp 5000000 (by omega)
  rw [decide_eq_true hz] at hk
  have hT : Plain.IsT (bs (codeL p)).data.toList ∧ (bs (codeL p)).size ≤ 100000000 := ⟨by rw [show (bs (codeL p)).data.toList = codeL p from bl_bs _]; exact isT_codeL (okp_nice hp), by rw [bs_size]; omega⟩
  have HD : Aside0 (dec (bs (codeL p)).data.toList = codeT p) := ⟨by rw [show (bs (codeL p)).data.toList = codeL p from bl_bs _]; exact dec_codeL hp⟩
  have HC := Aside0.mk hC
  have HCC := Aside0.mk hc
  have HV := Aside0.mk hv
  have HK := Aside0.mk hk
  have HT := Aside0.mk hT
  clear hC hc hp hz hv hk hT
  go_enter Tryz.func26, Tryz.ntmps26
  go_wp2_with (first
    | (go_at_call 27; refine (narcissusref02_Valid.calls 5000000 A c p true _ HC.out HCC.out HV.out).mono ?_; rintro e w1 ⟨rfl, hb1⟩; have HB1 := Aside0.mk hb1; clear hb1)
    | (go_at_call 47; refine (narcissusref07_Coded.calls 5000000 A c p (bs (codeL p)) true _ (Kd.C_below HC.out HB1.out) HCC.out HK.out).mono ?_; rintro e w2 ⟨rfl, hb2⟩; have HB2 := Aside0.mk (below_then HB1.out HB1.out.size hb2); clear hb2)
    | (go_at_call 22; refine (Read_calls (bs (codeL p)) _ HT.out.1 HT.out.2).mono ?_; rintro e w3 ⟨u, rfl, hu, hb3⟩; have HU := Aside0.mk hu; have HB3 := Aside0.mk (below_then HB2.out HB2.out.size hb3); clear hu hb3))
  go_ret2
  exact ⟨u, rfl, by rw [← HD.out]; exact HU.out, HB3.out⟩
def narcissuslaw08_awake.f (k : Nat) : Option Bool := if 16000 ≤ k then some true else none
set_option maxHeartbeats 4000000 in
set_option maxRecDepth 100000 in
theorem narcissuslaw08_awake.calls (k : Nat) (r : Bool) (w : World) (hL : LaidW w) (h : narcissuslaw08_awake.f k = some r) :
    Calls Tryz.prog 11 #[] w fun e w' => e = .returned (.bool r) ∧ Below w.heap.size w w' := by
  unfold narcissuslaw08_awake.f at h
  split at h
  case isFalse => cases h
  case isTrue hk =>
  obtain rfl := Option.some.inj h
  obtain ⟨e, he, hp, hz, hrun⟩ : ∃ e, ring_Ring.f k 1 = some ([e], 0) ∧ OKP e ∧ (codeL e).length ≤ 2000000 ∧ runM e .nil 100 = (codeT e, 37, 0) := ⟨_, Plain.awake_is k hk, Plain.one_okp, Plain.one_len, Plain.one_run⟩
  have HE := Aside0.mk he
  have HP := Aside0.mk hp
  have HZ := Aside0.mk hz
  have HRUN := Aside0.mk hrun
  have HL := Aside0.mk hL
  clear h he hp hz hrun hL
  go_enter Tryz.func11, Tryz.ntmps11
  go_wp2_with (first
    | (go_at_call 19; refine (ring_Ring.calls k 1 [e] 0 _ HL.out HE.out).mono ?_; rintro e' w1 ⟨vl, rfl, hs, hb⟩; have hs1 := Kd.S_R hs; obtain ⟨A, c, rfl, hcap, hC⟩ := Kd.R_reads hs1; obtain ⟨ad, A1, c1, rfl, cl, hle, hC1⟩ := at_L3 hC 0 (by omega) (by simp); obtain ⟨g, rfl⟩ := Kd.R_head hs1; rw [show rd_L3 [e] 0 = e from rfl] at cl hle hC1; rw [show (0 : Int).toNat = 0 from rfl, add_plain] at cl; have HC1 := Aside0.mk hC1; have HLE := Aside0.mk hle; have HB := Aside0.mk hb; clear hs hs1 hb hC hC1 hle hcap)
    | (go_at_call 26; refine (Coded_calls A1 c1 e _ HC1.out HLE.out HP.out HZ.out).mono ?_; rintro e' w2 ⟨v2, rfl, hn2, hb2⟩; have HN2 := Aside0.mk hn2; have HB2 := Aside0.mk hb2; have cl2 := pw_cell_below hb2 cl; clear hn2 hb2)
    | (go_at_call 28; refine (Load_calls _ A1 c1 e (Kd.C_below HC1.out HB2.out) HP.out).mono ?_; rintro e' w3 ⟨m3, rfl, hm3, hb3⟩; have HM3 := Aside0.mk hm3; have HB3 := Aside0.mk hb3; clear hm3 hb3)
    | (go_at_call 29; refine (Run_calls _ m3 (.pointer none) e .nil 100 HM3.out rfl (by decide) HP.out (by omega)).mono ?_; rw [HRUN.out]; rintro e' w4 ⟨v4, rfl, hn4, hb4⟩; have HN4 := Aside0.mk hn4; have HB4 := Aside0.mk hb4; clear hn4 hb4)
    | (go_at_call 30; refine (Equal_calls (codeT e) (codeT e) v4 v2 _ HN4.out (Nd.keep (NK.trans (NK.below HB3.out) (NK.below HB4.out)) _ _ HN2.out) (by rw [codeT_size HP.out]; have := HZ.out; omega) (by rw [codeT_size HP.out]; have := HZ.out; omega)).mono ?_; rintro e' w5 ⟨⟨v5, rfl, hv5⟩, hb5⟩; obtain rfl := hv5.2 rfl; have HB5 := Aside0.mk hb5; clear hb5 hv5))
  go_ret
  exact ⟨rfl, below_then (below_then (below_then (below_then HB.out HB.out.size HB2.out) (Nat.le_trans HB.out.size HB2.out.size) HB3.out) (Nat.le_trans HB.out.size (Nat.le_trans HB2.out.size HB3.out.size)) HB4.out) (Nat.le_trans HB.out.size (Nat.le_trans HB2.out.size (Nat.le_trans HB3.out.size HB4.out.size))) HB5.out⟩
end Go.Proofs.YtocoamgbpoommaaGreatDoor.C
end
section
namespace Go.Proofs.YtocoamgbpoommaaGreatDoor.C
open Go.RowKit Go.Proofs.YtocoamgbpoommaaGreatDoorW.PrintWords Go.Proofs.YtocoamgbpoommaaGreatDoorW.PrintLast Go.Proofs.YtocoamgbpoommaaGreatDoorW.PrintMore
open Go.Proofs.YtocoamgbpoommaaGreatDoor.Plain (Tr OKP codeL codeT codeT_size lstT)
set_option linter.unusedVariables false
set_option linter.unusedSimpArgs false
theorem lstT_size {b : Nat} : ∀ l : List Tr, (∀ t ∈ l, t.size ≤ b) → (lstT l).size ≤ l.length * (b + 1) + 1
  | [], _ => by simp [lstT, Tr.size]
  | t :: l, h => by
    have ih := lstT_size l fun x hx => h x (List.mem_cons_of_mem _ hx)
    have h1 := h t List.mem_cons_self
    have e : (lstT (t :: l)).size = 1 + t.size + (lstT l).size := rfl
    rw [e, List.length_cons, Nat.succ_mul]
    omega
end Go.Proofs.YtocoamgbpoommaaGreatDoor.C
end
section
namespace Go.Proofs.YtocoamgbpoommaaGreatDoor.C
open Go.RowKit Go.Proofs.YtocoamgbpoommaaGreatDoorW.PrintWords Go.Proofs.YtocoamgbpoommaaGreatDoorW.PrintLast Go.Proofs.YtocoamgbpoommaaGreatDoorW.PrintMore
open Go.Proofs.YtocoamgbpoommaaGreatDoor.Plain (Tr dec bl OKP codeL codeT codeT_size lstT runM ValidT Fine turns ring_tells together_yes okp_turns turns_length refValid_tells okp_fits refValidp_yes tmod_nat)
set_option linter.unusedVariables false
set_option linter.unusedSimpArgs false
theorem refValid_yes {x : ByteArray} (h : ValidT x) : narcissusref01_Valid.f 5000000 x = some true := by
  obtain ⟨v, e, hv⟩ := refValid_tells x 5000000 (by omega)
  rw [e, hv.2 h]
theorem refValid_no {x : ByteArray} (h : ¬ ValidT x) : narcissusref01_Valid.f 5000000 x = some false := by
  obtain ⟨v, e, hv⟩ := refValid_tells x 5000000 (by omega)
  cases v with
  | true => exact absurd (hv.1 rfl) h
  | false => exact e
theorem awake_calls (w : World) (hL : LaidW w) : Calls Tryz.prog 11 #[] w fun e w' => e = .returned (.bool true) ∧ Below w.heap.size w w' :=
  narcissuslaw08_awake.calls 16000 true w hL rfl
abbrev Yes (w : World) (e : Ending) (w' : World) : Prop := e = .returned (.bool true) ∧ Below w.heap.size w w'
end Go.Proofs.YtocoamgbpoommaaGreatDoor.C
end
