import Derived.Test.YtfckjfoalpkpjaaDoorT0
import Derived.Test.YtfckjfoalpkpjaaDoorH0
import Derived.Test.YtfckjfoalpkpjaaDoorF6
import Derived.Test.YtfckjfoalpkpjaaDoorF9
import Derived.Test.YtfckjfoalpkpjaaDoorH6
import Derived.Test.YtfckjfoalpkpjaaDoorH7
import Derived.Test.YtfckjfoalpkpjaaDoorH8
import Derived.Test.YtfckjfoalpkpjaaDoorHB
namespace Go.Proofs.YtfckjfoalpkpjaaDoor.C
open Go.RowKit Go.Proofs.YtfckjfoalpkpjaaDoorW.PrintWords Go.Proofs.YtfckjfoalpkpjaaDoorW.PrintLast Go.Proofs.YtfckjfoalpkpjaaDoorW.PrintMore
attribute [local go_sem] max2_int min2_int max_two min_two max_three min_three max_four min_four   -- for this text's walks alone
set_option linter.unusedVariables false
set_option linter.unusedSimpArgs false

/-! ### narcissuslaw02_CodeAccepts: function 3 -/
def narcissuslaw02_CodeAccepts.j0 : Nat → ByteArray → Option (Bool)
  | 0, _ => none
  | k + 1, x0 => (code_Parse.f k x0).bind fun bt8 => (if bt8.2 = 0 then ((code_Text.f k bt8.1).bind fun bt12 => (if bt12.2 = 0 then (if bt12.1.toList = x0.toList then ((code_Valid.f k bt8.1).bind fun t14 => (if t14 = true then ((narcissuslaw02_awake.f k).bind fun t15 => (some t15)) else (some false))) else (some false)) else (some false))) else ((narcissuslaw02_awake.f k).bind fun t16 => (some t16)))
def narcissuslaw02_CodeAccepts.f (k : Nat) (a0 : ByteArray) : Option (Bool) := (code_Decode.f k a0).bind fun bt1 => (if bt1.2 = 0 then ((code_Code.f k bt1.1).bind fun bt5 => (if bt5.2 = 0 then (if bt5.1.toList = a0.toList then ((code_Valid.f k bt1.1).bind fun t7 => (if t7 = true then (narcissuslaw02_CodeAccepts.j0 k a0) else (some false))) else (some false)) else (some false))) else (narcissuslaw02_CodeAccepts.j0 k a0))
theorem narcissuslaw02_CodeAccepts.mono_l : ∀ k, (∀ y0, LeO (narcissuslaw02_CodeAccepts.j0 k y0) (narcissuslaw02_CodeAccepts.j0 (k + 1) y0))
  | 0 => fun _ r h => by simp [narcissuslaw02_CodeAccepts.j0] at h
  | k + 1 => by
    have ih0 := narcissuslaw02_CodeAccepts.mono_l k
    · intro y0
      unfold narcissuslaw02_CodeAccepts.j0
      repeat' first
      | (with_reducible exact ih0 _)
      | (with_reducible exact code_Code.mono _ _)
      | (with_reducible exact code_Decode.mono _ _)
      | (with_reducible exact code_Parse.mono _ _)
      | (with_reducible exact code_Text.mono _ _)
      | (with_reducible exact code_Valid.mono _ _)
      | (with_reducible exact narcissuslaw02_awake.mono _)
      | (with_reducible exact LeO.refl _)
      | (with_reducible exact LeO.none _)
      | (with_reducible refine LeO.ite ?_ ?_)
      | (with_reducible refine LeO.bind ?_ (fun _ => ?_))
      | exact ih0 _
      | exact code_Code.mono _ _
      | exact code_Decode.mono _ _
      | exact code_Parse.mono _ _
      | exact code_Text.mono _ _
      | exact code_Valid.mono _ _
      | exact narcissuslaw02_awake.mono _
      | exact LeO.none _
      | refine LeO.ite ?_ ?_
      | refine LeO.bind ?_ (fun _ => ?_)
theorem narcissuslaw02_CodeAccepts.mono : ∀ a0 k, LeO (narcissuslaw02_CodeAccepts.f k a0) (narcissuslaw02_CodeAccepts.f (k + 1) a0) := by
  intro a0 k
  have ih0 := narcissuslaw02_CodeAccepts.mono_l k
  unfold narcissuslaw02_CodeAccepts.f
  repeat' first
      | (with_reducible exact ih0 _)
      | (with_reducible exact code_Code.mono _ _)
      | (with_reducible exact code_Decode.mono _ _)
      | (with_reducible exact code_Parse.mono _ _)
      | (with_reducible exact code_Text.mono _ _)
      | (with_reducible exact code_Valid.mono _ _)
      | (with_reducible exact narcissuslaw02_awake.mono _)
      | (with_reducible exact LeO.refl _)
      | (with_reducible exact LeO.none _)
      | (with_reducible refine LeO.ite ?_ ?_)
      | (with_reducible refine LeO.bind ?_ (fun _ => ?_))
      | exact ih0 _
      | exact code_Code.mono _ _
      | exact code_Decode.mono _ _
      | exact code_Parse.mono _ _
      | exact code_Text.mono _ _
      | exact code_Valid.mono _ _
      | exact narcissuslaw02_awake.mono _
      | exact LeO.none _
      | refine LeO.ite ?_ ?_
      | refine LeO.bind ?_ (fun _ => ?_)
set_option maxHeartbeats 8000000 in
set_option maxRecDepth 100000 in
theorem narcissuslaw02_CodeAccepts.calls (k : Nat) (a0 : ByteArray) (r : Bool) (w : World) (hL : LaidW w) (h : narcissuslaw02_CodeAccepts.f k a0 = some r) :
    Calls Tryd.prog 3 #[.string a0] w fun e w' => e = .returned (.bool r) ∧ Below w.heap.size w w' := by
  have HLD := Aside0.mk hL
  clear hL
  have HB := Aside0.mk (Below.refl w.heap.size w)
  have H : ((code_Decode.f k a0).bind fun bt1 => (if bt1.2 = 0 then ((code_Code.f k bt1.1).bind fun bt5 => (if bt5.2 = 0 then (if bt5.1.toList = a0.toList then ((code_Valid.f k bt1.1).bind fun t7 => (if t7 = true then (narcissuslaw02_CodeAccepts.j0 k a0) else (some false))) else (some false)) else (some false))) else (narcissuslaw02_CodeAccepts.j0 k a0))) = some r := h
  clear h
  replace H := Option.bind_eq_some_iff.mp H
  obtain ⟨⟨t1, t2⟩, A20, H⟩ := H
  replace H : (if t2 = 0 then ((code_Code.f k t1).bind fun bt5 => (if bt5.2 = 0 then (if bt5.1.toList = a0.toList then ((code_Valid.f k t1).bind fun t7 => (if t7 = true then (narcissuslaw02_CodeAccepts.j0 k a0) else (some false))) else (some false)) else (some false))) else (narcissuslaw02_CodeAccepts.j0 k a0)) = some r := H
  have A2 := Aside0.mk A20
  clear A20
  have HC3 := Aside0.mk H
  clear H
  go_enter Tryd.func3, Tryd.ntmps3
  go_upto_if 17 with (first | ((with_reducible refine gate_callee (f := 4) rfl ?_); refine goesL_ (some 13) rfl rfl Tryd.func4 (by kernel_rfl) rfl #[.string a0] rfl (by (try simp only [List.map_toArray, List.map_cons, List.map_nil]); first | done | rfl | (simp only [List.length_drop, List.length_take]; rfl)) ?_; (with_reducible refine (code_Decode.calls k a0 t1 t2 _ A2.out).mono ?_); rintro e w4 ⟨v3, rfl, ho0, hb⟩; refine ⟨_, rfl, ?_⟩; have n0_ := Aside0.mk (Kd.R_lower ho0 (below_size (by repeat (first | (with_reducible first | exact HB.out | apply below_alloc | apply pw_below_drewN | apply below_drew1) | exact HB.out)))); have n1_ := Aside0.mk (below_step (by repeat (first | (with_reducible first | exact HB.out | apply below_alloc | apply pw_below_drewN | apply below_drew1) | exact HB.out)) hb); clear HB; have HO4 := n0_; have HB := n1_; clear n0_ n1_; (try clear hb); (try clear hb2); (try clear hk); (try clear hi); (try clear ho0)))
  (try simp only [Act.put, List.setIfInBounds_toArray, List.set_cons_zero, List.set_cons_succ])
  go_cut [] (fun wc => ∃ (kq : Nat), Aside0 (narcissuslaw02_CodeAccepts.j0 kq a0 = some r) ∧ Aside0 (kq ≤ k) ∧ Aside0 (Below w.heap.size w wc))
  case first =>
    have H := HC3.out
    clear HC3
    by_cases c5 : t2 = 0
    · rw [if_pos c5] at H
      have c5b0 : (t2 == 0) = true := beq_iff_eq.mpr c5
      have c5b1 : (t2 != 0) = false := bne_eq_false_iff_eq.mpr c5
      clear c5
      (first | rw [c5b0] | (simp only [i64_w, i32_w]; rw [c5b0]) | skip)
      replace H := Option.bind_eq_some_iff.mp H
      obtain ⟨⟨t5, t6⟩, A60, H⟩ := H
      replace H : (if t6 = 0 then (if t5.toList = a0.toList then ((code_Valid.f k t1).bind fun t7 => (if t7 = true then (narcissuslaw02_CodeAccepts.j0 k a0) else (some false))) else (some false)) else (some false)) = some r := H
      have A6 := Aside0.mk A60
      clear A60
      by_cases c7 : t6 = 0
      · rw [if_pos c7] at H
        have c7b0 : (t6 == 0) = true := beq_iff_eq.mpr c7
        have c7b1 : (t6 != 0) = false := bne_eq_false_iff_eq.mpr c7
        clear c7
        by_cases c8 : t5.toList = a0.toList
        · rw [if_pos c8] at H
          have c8b0 : (t5.toList == a0.toList) = true := beq_iff_eq.mpr c8
          have c8b1 : (t5.toList != a0.toList) = false := bne_eq_false_iff_eq.mpr c8
          clear c8
          replace H := Option.bind_eq_some_iff.mp H
          obtain ⟨t7, A90, H⟩ := H
          replace H : (if t7 = true then (narcissuslaw02_CodeAccepts.j0 k a0) else (some false)) = some r := H
          have A9 := Aside0.mk A90
          clear A90
          by_cases c10 : t7 = true
          · subst c10
            have H1 : (narcissuslaw02_CodeAccepts.j0 k a0) = some r := by rw [if_pos rfl] at H; exact H
            clear H
            have H := H1
            clear H1
            have H' := Aside0.mk H
            clear H
            obtain ⟨Ao11, co11, eo11⟩ := Kd.R_slice HO4.out
            subst eo11
            go_wp2_with (first | ((with_reducible refine gate_callee (f := 5) rfl ?_); refine goesL_ (some 20) rfl rfl Tryd.func5 (by kernel_rfl) rfl #[.slice Ao11 t1.length co11] rfl (by (try simp only [List.map_toArray, List.map_cons, List.map_nil]); first | done | rfl | (simp only [List.length_drop, List.length_take]; rfl)) ?_; (with_reducible refine (code_Code.calls k _ _ t1 t5 t6 _ ?side1 ?side2 A6.out).mono ?_); (case side1 => repeat (first | exact (Kd.R_reads' HO4.out).2.2 | (with_reducible refine Kd.C_alloc ?_ _) | (with_reducible refine Kd.C_drewN ?_ _) | (with_reducible refine Kd.C_drew ?_))); (case side2 => exact (Kd.R_reads' HO4.out).2.1); rintro e w12 ⟨rfl, hb⟩; refine ⟨_, rfl, ?_⟩; have n0_ := Aside0.mk (Kd.R_below (by (with_reducible repeat (first | apply Kd.R_alloc | apply Kd.R_drewN | apply Kd.R_drew)); exact HO4.out) hb); have n1_ := Aside0.mk (below_step (by repeat (first | (with_reducible first | exact HB.out | apply below_alloc | apply pw_below_drewN | apply below_drew1) | exact HB.out)) hb); clear HO4; clear HB; have HO4 := n0_; have HB := n1_; clear n0_ n1_; (try clear hb); (try clear hb2); (try clear hk); (try clear hi)) | (go_at_call 6; (with_reducible refine (code_Valid.calls k _ _ t1 true _ ?side1 ?side2 A9.out).mono ?_); (case side1 => repeat (first | exact (Kd.R_reads' HO4.out).2.2 | (with_reducible refine Kd.C_alloc ?_ _) | (with_reducible refine Kd.C_drewN ?_ _) | (with_reducible refine Kd.C_drew ?_))); (case side2 => exact (Kd.R_reads' HO4.out).2.1); rintro e w13 ⟨rfl, hb⟩; have n0_ := Aside0.mk (Kd.R_below (by (with_reducible repeat (first | apply Kd.R_alloc | apply Kd.R_drewN | apply Kd.R_drew)); exact HO4.out) hb); have n1_ := Aside0.mk (below_step (by repeat (first | (with_reducible first | exact HB.out | apply below_alloc | apply pw_below_drewN | apply below_drew1) | exact HB.out)) hb); clear HO4; clear HB; have HO4 := n0_; have HB := n1_; clear n0_ n1_; (try clear hb); (try clear hb2); (try clear hk); (try clear hi)))
            go_meet
            case rel => exact ⟨_, H', ⟨by first | omega | exact Nat.le_refl _⟩, ⟨by repeat (first | (with_reducible first | exact HB.out | apply below_alloc | apply pw_below_drewN | apply below_drew1) | exact HB.out)⟩⟩
          · replace c10 := Bool.eq_false_iff.mpr c10
            subst c10
            have H1 : (some false) = some r := by rw [if_neg (show ¬ (false = true) by decide)] at H; exact H
            clear H
            have H := H1
            clear H1
            obtain rfl := Option.some.inj H
            obtain ⟨Ao14, co14, eo14⟩ := Kd.R_slice HO4.out
            subst eo14
            go_wp2_with (first | ((with_reducible refine gate_callee (f := 5) rfl ?_); refine goesL_ (some 20) rfl rfl Tryd.func5 (by kernel_rfl) rfl #[.slice Ao14 t1.length co14] rfl (by (try simp only [List.map_toArray, List.map_cons, List.map_nil]); first | done | rfl | (simp only [List.length_drop, List.length_take]; rfl)) ?_; (with_reducible refine (code_Code.calls k _ _ t1 t5 t6 _ ?side1 ?side2 A6.out).mono ?_); (case side1 => repeat (first | exact (Kd.R_reads' HO4.out).2.2 | (with_reducible refine Kd.C_alloc ?_ _) | (with_reducible refine Kd.C_drewN ?_ _) | (with_reducible refine Kd.C_drew ?_))); (case side2 => exact (Kd.R_reads' HO4.out).2.1); rintro e w15 ⟨rfl, hb⟩; refine ⟨_, rfl, ?_⟩; have n0_ := Aside0.mk (Kd.R_below (by (with_reducible repeat (first | apply Kd.R_alloc | apply Kd.R_drewN | apply Kd.R_drew)); exact HO4.out) hb); have n1_ := Aside0.mk (below_step (by repeat (first | (with_reducible first | exact HB.out | apply below_alloc | apply pw_below_drewN | apply below_drew1) | exact HB.out)) hb); clear HO4; clear HB; have HO4 := n0_; have HB := n1_; clear n0_ n1_; (try clear hb); (try clear hb2); (try clear hk); (try clear hi)) | (go_at_call 6; (with_reducible refine (code_Valid.calls k _ _ t1 false _ ?side1 ?side2 A9.out).mono ?_); (case side1 => repeat (first | exact (Kd.R_reads' HO4.out).2.2 | (with_reducible refine Kd.C_alloc ?_ _) | (with_reducible refine Kd.C_drewN ?_ _) | (with_reducible refine Kd.C_drew ?_))); (case side2 => exact (Kd.R_reads' HO4.out).2.1); rintro e w16 ⟨rfl, hb⟩; have n0_ := Aside0.mk (Kd.R_below (by (with_reducible repeat (first | apply Kd.R_alloc | apply Kd.R_drewN | apply Kd.R_drew)); exact HO4.out) hb); have n1_ := Aside0.mk (below_step (by repeat (first | (with_reducible first | exact HB.out | apply below_alloc | apply pw_below_drewN | apply below_drew1) | exact HB.out)) hb); clear HO4; clear HB; have HO4 := n0_; have HB := n1_; clear n0_ n1_; (try clear hb); (try clear hb2); (try clear hk); (try clear hi)))
            go_ret
            exact ⟨by first | rfl | (simp [errW_none, errW_some] <;> rfl) | (simp [*, errW_none, errW_some] <;> rfl), by repeat (first | (with_reducible first | exact HB.out | apply below_alloc | apply pw_below_drewN | apply below_drew1) | exact HB.out)⟩
        · rw [if_neg c8] at H
          have c8b0 : (t5.toList == a0.toList) = false := beq_eq_false_iff_ne.mpr c8
          have c8b1 : (t5.toList != a0.toList) = true := bne_iff_ne.mpr c8
          obtain rfl := Option.some.inj H
          obtain ⟨Ao17, co17, eo17⟩ := Kd.R_slice HO4.out
          subst eo17
          go_wp2_with (first | ((with_reducible refine gate_callee (f := 5) rfl ?_); refine goesL_ (some 20) rfl rfl Tryd.func5 (by kernel_rfl) rfl #[.slice Ao17 t1.length co17] rfl (by (try simp only [List.map_toArray, List.map_cons, List.map_nil]); first | done | rfl | (simp only [List.length_drop, List.length_take]; rfl)) ?_; (with_reducible refine (code_Code.calls k _ _ t1 t5 t6 _ ?side1 ?side2 A6.out).mono ?_); (case side1 => repeat (first | exact (Kd.R_reads' HO4.out).2.2 | (with_reducible refine Kd.C_alloc ?_ _) | (with_reducible refine Kd.C_drewN ?_ _) | (with_reducible refine Kd.C_drew ?_))); (case side2 => exact (Kd.R_reads' HO4.out).2.1); rintro e w18 ⟨rfl, hb⟩; refine ⟨_, rfl, ?_⟩; have n0_ := Aside0.mk (Kd.R_below (by (with_reducible repeat (first | apply Kd.R_alloc | apply Kd.R_drewN | apply Kd.R_drew)); exact HO4.out) hb); have n1_ := Aside0.mk (below_step (by repeat (first | (with_reducible first | exact HB.out | apply below_alloc | apply pw_below_drewN | apply below_drew1) | exact HB.out)) hb); clear HO4; clear HB; have HO4 := n0_; have HB := n1_; clear n0_ n1_; (try clear hb); (try clear hb2); (try clear hk); (try clear hi)))
          go_ret
          exact ⟨by first | rfl | (simp [errW_none, errW_some] <;> rfl) | (simp [*, errW_none, errW_some] <;> rfl), by repeat (first | (with_reducible first | exact HB.out | apply below_alloc | apply pw_below_drewN | apply below_drew1) | exact HB.out)⟩
      · rw [if_neg c7] at H
        have c7b0 : (t6 == 0) = false := beq_eq_false_iff_ne.mpr c7
        have c7b1 : (t6 != 0) = true := bne_iff_ne.mpr c7
        obtain rfl := Option.some.inj H
        obtain ⟨Ao19, co19, eo19⟩ := Kd.R_slice HO4.out
        subst eo19
        go_wp2_with (first | ((with_reducible refine gate_callee (f := 5) rfl ?_); refine goesL_ (some 20) rfl rfl Tryd.func5 (by kernel_rfl) rfl #[.slice Ao19 t1.length co19] rfl (by (try simp only [List.map_toArray, List.map_cons, List.map_nil]); first | done | rfl | (simp only [List.length_drop, List.length_take]; rfl)) ?_; (with_reducible refine (code_Code.calls k _ _ t1 t5 t6 _ ?side1 ?side2 A6.out).mono ?_); (case side1 => repeat (first | exact (Kd.R_reads' HO4.out).2.2 | (with_reducible refine Kd.C_alloc ?_ _) | (with_reducible refine Kd.C_drewN ?_ _) | (with_reducible refine Kd.C_drew ?_))); (case side2 => exact (Kd.R_reads' HO4.out).2.1); rintro e w20 ⟨rfl, hb⟩; refine ⟨_, rfl, ?_⟩; have n0_ := Aside0.mk (Kd.R_below (by (with_reducible repeat (first | apply Kd.R_alloc | apply Kd.R_drewN | apply Kd.R_drew)); exact HO4.out) hb); have n1_ := Aside0.mk (below_step (by repeat (first | (with_reducible first | exact HB.out | apply below_alloc | apply pw_below_drewN | apply below_drew1) | exact HB.out)) hb); clear HO4; clear HB; have HO4 := n0_; have HB := n1_; clear n0_ n1_; (try clear hb); (try clear hb2); (try clear hk); (try clear hi)))
        go_ret
        exact ⟨by first | rfl | (simp [errW_none, errW_some] <;> rfl) | (simp [*, errW_none, errW_some] <;> rfl), by repeat (first | (with_reducible first | exact HB.out | apply below_alloc | apply pw_below_drewN | apply below_drew1) | exact HB.out)⟩
    · rw [if_neg c5] at H
      have c5b0 : (t2 == 0) = false := beq_eq_false_iff_ne.mpr c5
      have c5b1 : (t2 != 0) = true := bne_iff_ne.mpr c5
      (first | rw [c5b0] | (simp only [i64_w, i32_w]; rw [c5b0]) | skip)
      have H' := Aside0.mk H
      clear H
      go_wp2
      go_meet
      case rel => exact ⟨_, H', ⟨by first | omega | exact Nat.le_refl _⟩, ⟨by repeat (first | (with_reducible first | exact HB.out | apply below_alloc | apply pw_below_drewN | apply below_drew1) | exact HB.out)⟩⟩
  case rest =>
    clear HC3
    try clear c1
    try clear p2
    try clear c3
    try clear c4
    try clear c5
    try clear c5b0
    try clear c5b1
    try clear c7
    try clear c7b0
    try clear c7b1
    try clear c8
    try clear c8b0
    try clear c8b1
    try clear c10
    obtain ⟨kq, HA, HJ2, HB⟩ := hcut
    cases kq with
    | zero => exact absurd HA.out (by simp [narcissuslaw02_CodeAccepts.j0])
    | succ kj2 =>
      have H := HA.out
      clear HA
      simp only [narcissuslaw02_CodeAccepts.j0] at H
      replace H := Option.bind_eq_some_iff.mp H
      obtain ⟨⟨t8, t9⟩, A210, H⟩ := H
      replace H : (if t9 = 0 then ((code_Text.f kj2 t8).bind fun bt12 => (if bt12.2 = 0 then (if bt12.1.toList = a0.toList then ((code_Valid.f kj2 t8).bind fun t14 => (if t14 = true then ((narcissuslaw02_awake.f kj2).bind fun t15 => (some t15)) else (some false))) else (some false)) else (some false))) else ((narcissuslaw02_awake.f kj2).bind fun t16 => (some t16))) = some r := H
      have A21 := Aside0.mk A210
      clear A210
      by_cases c22 : t9 = 0
      · rw [if_pos c22] at H
        have c22b0 : (t9 == 0) = true := beq_iff_eq.mpr c22
        have c22b1 : (t9 != 0) = false := bne_eq_false_iff_eq.mpr c22
        clear c22
        replace H := Option.bind_eq_some_iff.mp H
        obtain ⟨⟨t12, t13⟩, A230, H⟩ := H
        replace H : (if t13 = 0 then (if t12.toList = a0.toList then ((code_Valid.f kj2 t8).bind fun t14 => (if t14 = true then ((narcissuslaw02_awake.f kj2).bind fun t15 => (some t15)) else (some false))) else (some false)) else (some false)) = some r := H
        have A23 := Aside0.mk A230
        clear A230
        by_cases c24 : t13 = 0
        · rw [if_pos c24] at H
          have c24b0 : (t13 == 0) = true := beq_iff_eq.mpr c24
          have c24b1 : (t13 != 0) = false := bne_eq_false_iff_eq.mpr c24
          clear c24
          by_cases c25 : t12.toList = a0.toList
          · rw [if_pos c25] at H
            have c25b0 : (t12.toList == a0.toList) = true := beq_iff_eq.mpr c25
            have c25b1 : (t12.toList != a0.toList) = false := bne_eq_false_iff_eq.mpr c25
            clear c25
            replace H := Option.bind_eq_some_iff.mp H
            obtain ⟨t14, A260, H⟩ := H
            replace H : (if t14 = true then ((narcissuslaw02_awake.f kj2).bind fun t15 => (some t15)) else (some false)) = some r := H
            have A26 := Aside0.mk A260
            clear A260
            by_cases c27 : t14 = true
            · subst c27
              have H1 : ((narcissuslaw02_awake.f kj2).bind fun t15 => (some t15)) = some r := by rw [if_pos rfl] at H; exact H
              clear H
              have H := H1
              clear H1
              replace H := Option.bind_eq_some_iff.mp H
              obtain ⟨t15, A280, H⟩ := H
              replace H : (some t15) = some r := H
              have A28 := Aside0.mk A280
              clear A280
              obtain rfl := Option.some.inj H
              go_wp2_with (first | ((with_reducible refine gate_callee (f := 7) rfl ?_); refine goesL_ (some 37) rfl rfl Tryd.func7 (by kernel_rfl) rfl #[.string a0] rfl (by (try simp only [List.map_toArray, List.map_cons, List.map_nil]); first | done | rfl | (simp only [List.length_drop, List.length_take]; rfl)) ?_; (with_reducible refine (code_Parse.calls kj2 a0 t8 t9 _ ?side1 A21.out).mono ?_); (case side1 => first | (refine LaidW.below HLD.out ?_; with_reducible exact HB.out) | (refine LaidW.below HLD.out ?_; with_reducible apply pw_below_drewN; with_reducible exact HB.out) | (refine LaidW.below HLD.out ?_; with_reducible apply below_alloc; with_reducible exact HB.out) | (refine LaidW.below HLD.out ?_; repeat (first | (with_reducible first | exact HB.out | apply below_alloc | apply pw_below_drewN | apply below_drew1) | exact HB.out); done) | exact HLD.out | (repeat (first | exact HLD.out | (with_reducible refine LaidW.drewN ?_ _) | (with_reducible refine LaidW.drew ?_) | (with_reducible refine LaidW.alloc ?_ _)))); rintro e w29 ⟨v10, rfl, ho0, hb⟩; refine ⟨_, rfl, ?_⟩; have n0_ := Aside0.mk (Kd.R_lower ho0 (below_size (by repeat (first | (with_reducible first | exact HB.out | apply below_alloc | apply pw_below_drewN | apply below_drew1) | exact HB.out)))); have n1_ := Aside0.mk (below_step (by repeat (first | (with_reducible first | exact HB.out | apply below_alloc | apply pw_below_drewN | apply below_drew1) | exact HB.out)) hb); clear HB; have HO11 := n0_; have HB := n1_; clear n0_ n1_; (try clear hb); (try clear hb2); (try clear hk); (try clear hi); (try clear ho0); obtain ⟨Ao30, co30, eo30⟩ := Kd.R_slice HO11.out; subst eo30) | ((with_reducible refine gate_callee (f := 8) rfl ?_); refine goesL_ (some 44) rfl rfl Tryd.func8 (by kernel_rfl) rfl #[.slice Ao30 t8.length co30] rfl (by (try simp only [List.map_toArray, List.map_cons, List.map_nil]); first | done | rfl | (simp only [List.length_drop, List.length_take]; rfl)) ?_; (with_reducible refine (code_Text.calls kj2 _ _ t8 t12 t13 _ ?side1 ?side2 ?side3 A23.out).mono ?_); (case side1 => repeat (first | exact (Kd.R_reads' HO11.out).2.2 | (with_reducible refine Kd.C_alloc ?_ _) | (with_reducible refine Kd.C_drewN ?_ _) | (with_reducible refine Kd.C_drew ?_))); (case side2 => exact (Kd.R_reads' HO11.out).2.1); (case side3 => first | (refine LaidW.below HLD.out ?_; with_reducible exact HB.out) | (refine LaidW.below HLD.out ?_; with_reducible apply pw_below_drewN; with_reducible exact HB.out) | (refine LaidW.below HLD.out ?_; with_reducible apply below_alloc; with_reducible exact HB.out) | (refine LaidW.below HLD.out ?_; repeat (first | (with_reducible first | exact HB.out | apply below_alloc | apply pw_below_drewN | apply below_drew1) | exact HB.out); done) | exact HLD.out | (repeat (first | exact HLD.out | (with_reducible refine LaidW.drewN ?_ _) | (with_reducible refine LaidW.drew ?_) | (with_reducible refine LaidW.alloc ?_ _)))); rintro e w31 ⟨rfl, hb⟩; refine ⟨_, rfl, ?_⟩; have n0_ := Aside0.mk (Kd.R_below (by (with_reducible repeat (first | apply Kd.R_alloc | apply Kd.R_drewN | apply Kd.R_drew)); exact HO11.out) hb); have n1_ := Aside0.mk (below_step (by repeat (first | (with_reducible first | exact HB.out | apply below_alloc | apply pw_below_drewN | apply below_drew1) | exact HB.out)) hb); clear HO11; clear HB; have HO11 := n0_; have HB := n1_; clear n0_ n1_; (try clear hb); (try clear hb2); (try clear hk); (try clear hi)) | (go_at_call 6; (with_reducible refine (code_Valid.calls kj2 _ _ t8 true _ ?side1 ?side2 A26.out).mono ?_); (case side1 => repeat (first | exact (Kd.R_reads' HO11.out).2.2 | (with_reducible refine Kd.C_alloc ?_ _) | (with_reducible refine Kd.C_drewN ?_ _) | (with_reducible refine Kd.C_drew ?_))); (case side2 => exact (Kd.R_reads' HO11.out).2.1); rintro e w32 ⟨rfl, hb⟩; have n0_ := Aside0.mk (Kd.R_below (by (with_reducible repeat (first | apply Kd.R_alloc | apply Kd.R_drewN | apply Kd.R_drew)); exact HO11.out) hb); have n1_ := Aside0.mk (below_step (by repeat (first | (with_reducible first | exact HB.out | apply below_alloc | apply pw_below_drewN | apply below_drew1) | exact HB.out)) hb); clear HO11; clear HB; have HO11 := n0_; have HB := n1_; clear n0_ n1_; (try clear hb); (try clear hb2); (try clear hk); (try clear hi)) | ((with_reducible refine gate_callee (f := 9) rfl ?_); refine goesL_ (some 59) rfl rfl Tryd.func9 (by kernel_rfl) rfl #[] rfl (by (try simp only [List.map_toArray, List.map_cons, List.map_nil]); first | done | rfl | (simp only [List.length_drop, List.length_take]; rfl)) ?_; (with_reducible refine (narcissuslaw02_awake.calls kj2  t15 _ ?side1 A28.out).mono ?_); (case side1 => first | (refine LaidW.below HLD.out ?_; with_reducible exact HB.out) | (refine LaidW.below HLD.out ?_; with_reducible apply pw_below_drewN; with_reducible exact HB.out) | (refine LaidW.below HLD.out ?_; with_reducible apply below_alloc; with_reducible exact HB.out) | (refine LaidW.below HLD.out ?_; repeat (first | (with_reducible first | exact HB.out | apply below_alloc | apply pw_below_drewN | apply below_drew1) | exact HB.out); done) | exact HLD.out | (repeat (first | exact HLD.out | (with_reducible refine LaidW.drewN ?_ _) | (with_reducible refine LaidW.drew ?_) | (with_reducible refine LaidW.alloc ?_ _)))); rintro e w33 ⟨rfl, hb⟩; refine ⟨_, rfl, ?_⟩; have n0_ := Aside0.mk (Kd.R_below (by (with_reducible repeat (first | apply Kd.R_alloc | apply Kd.R_drewN | apply Kd.R_drew)); exact HO11.out) hb); have n1_ := Aside0.mk (below_step (by repeat (first | (with_reducible first | exact HB.out | apply below_alloc | apply pw_below_drewN | apply below_drew1) | exact HB.out)) hb); clear HO11; clear HB; have HO11 := n0_; have HB := n1_; clear n0_ n1_; (try clear hb); (try clear hb2); (try clear hk); (try clear hi)))
              go_ret
              exact ⟨by first | rfl | (simp [errW_none, errW_some] <;> rfl) | (simp [*, errW_none, errW_some] <;> rfl), by repeat (first | (with_reducible first | exact HB.out | apply below_alloc | apply pw_below_drewN | apply below_drew1) | exact HB.out)⟩
            · replace c27 := Bool.eq_false_iff.mpr c27
              subst c27
              have H1 : (some false) = some r := by rw [if_neg (show ¬ (false = true) by decide)] at H; exact H
              clear H
              have H := H1
              clear H1
              obtain rfl := Option.some.inj H
              go_wp2_with (first | ((with_reducible refine gate_callee (f := 7) rfl ?_); refine goesL_ (some 37) rfl rfl Tryd.func7 (by kernel_rfl) rfl #[.string a0] rfl (by (try simp only [List.map_toArray, List.map_cons, List.map_nil]); first | done | rfl | (simp only [List.length_drop, List.length_take]; rfl)) ?_; (with_reducible refine (code_Parse.calls kj2 a0 t8 t9 _ ?side1 A21.out).mono ?_); (case side1 => first | (refine LaidW.below HLD.out ?_; with_reducible exact HB.out) | (refine LaidW.below HLD.out ?_; with_reducible apply pw_below_drewN; with_reducible exact HB.out) | (refine LaidW.below HLD.out ?_; with_reducible apply below_alloc; with_reducible exact HB.out) | (refine LaidW.below HLD.out ?_; repeat (first | (with_reducible first | exact HB.out | apply below_alloc | apply pw_below_drewN | apply below_drew1) | exact HB.out); done) | exact HLD.out | (repeat (first | exact HLD.out | (with_reducible refine LaidW.drewN ?_ _) | (with_reducible refine LaidW.drew ?_) | (with_reducible refine LaidW.alloc ?_ _)))); rintro e w34 ⟨v10, rfl, ho0, hb⟩; refine ⟨_, rfl, ?_⟩; have n0_ := Aside0.mk (Kd.R_lower ho0 (below_size (by repeat (first | (with_reducible first | exact HB.out | apply below_alloc | apply pw_below_drewN | apply below_drew1) | exact HB.out)))); have n1_ := Aside0.mk (below_step (by repeat (first | (with_reducible first | exact HB.out | apply below_alloc | apply pw_below_drewN | apply below_drew1) | exact HB.out)) hb); clear HB; have HO11 := n0_; have HB := n1_; clear n0_ n1_; (try clear hb); (try clear hb2); (try clear hk); (try clear hi); (try clear ho0); obtain ⟨Ao35, co35, eo35⟩ := Kd.R_slice HO11.out; subst eo35) | ((with_reducible refine gate_callee (f := 8) rfl ?_); refine goesL_ (some 44) rfl rfl Tryd.func8 (by kernel_rfl) rfl #[.slice Ao35 t8.length co35] rfl (by (try simp only [List.map_toArray, List.map_cons, List.map_nil]); first | done | rfl | (simp only [List.length_drop, List.length_take]; rfl)) ?_; (with_reducible refine (code_Text.calls kj2 _ _ t8 t12 t13 _ ?side1 ?side2 ?side3 A23.out).mono ?_); (case side1 => repeat (first | exact (Kd.R_reads' HO11.out).2.2 | (with_reducible refine Kd.C_alloc ?_ _) | (with_reducible refine Kd.C_drewN ?_ _) | (with_reducible refine Kd.C_drew ?_))); (case side2 => exact (Kd.R_reads' HO11.out).2.1); (case side3 => first | (refine LaidW.below HLD.out ?_; with_reducible exact HB.out) | (refine LaidW.below HLD.out ?_; with_reducible apply pw_below_drewN; with_reducible exact HB.out) | (refine LaidW.below HLD.out ?_; with_reducible apply below_alloc; with_reducible exact HB.out) | (refine LaidW.below HLD.out ?_; repeat (first | (with_reducible first | exact HB.out | apply below_alloc | apply pw_below_drewN | apply below_drew1) | exact HB.out); done) | exact HLD.out | (repeat (first | exact HLD.out | (with_reducible refine LaidW.drewN ?_ _) | (with_reducible refine LaidW.drew ?_) | (with_reducible refine LaidW.alloc ?_ _)))); rintro e w36 ⟨rfl, hb⟩; refine ⟨_, rfl, ?_⟩; have n0_ := Aside0.mk (Kd.R_below (by (with_reducible repeat (first | apply Kd.R_alloc | apply Kd.R_drewN | apply Kd.R_drew)); exact HO11.out) hb); have n1_ := Aside0.mk (below_step (by repeat (first | (with_reducible first | exact HB.out | apply below_alloc | apply pw_below_drewN | apply below_drew1) | exact HB.out)) hb); clear HO11; clear HB; have HO11 := n0_; have HB := n1_; clear n0_ n1_; (try clear hb); (try clear hb2); (try clear hk); (try clear hi)) | (go_at_call 6; (with_reducible refine (code_Valid.calls kj2 _ _ t8 false _ ?side1 ?side2 A26.out).mono ?_); (case side1 => repeat (first | exact (Kd.R_reads' HO11.out).2.2 | (with_reducible refine Kd.C_alloc ?_ _) | (with_reducible refine Kd.C_drewN ?_ _) | (with_reducible refine Kd.C_drew ?_))); (case side2 => exact (Kd.R_reads' HO11.out).2.1); rintro e w37 ⟨rfl, hb⟩; have n0_ := Aside0.mk (Kd.R_below (by (with_reducible repeat (first | apply Kd.R_alloc | apply Kd.R_drewN | apply Kd.R_drew)); exact HO11.out) hb); have n1_ := Aside0.mk (below_step (by repeat (first | (with_reducible first | exact HB.out | apply below_alloc | apply pw_below_drewN | apply below_drew1) | exact HB.out)) hb); clear HO11; clear HB; have HO11 := n0_; have HB := n1_; clear n0_ n1_; (try clear hb); (try clear hb2); (try clear hk); (try clear hi)))
              go_ret
              exact ⟨by first | rfl | (simp [errW_none, errW_some] <;> rfl) | (simp [*, errW_none, errW_some] <;> rfl), by repeat (first | (with_reducible first | exact HB.out | apply below_alloc | apply pw_below_drewN | apply below_drew1) | exact HB.out)⟩
          · rw [if_neg c25] at H
            have c25b0 : (t12.toList == a0.toList) = false := beq_eq_false_iff_ne.mpr c25
            have c25b1 : (t12.toList != a0.toList) = true := bne_iff_ne.mpr c25
            obtain rfl := Option.some.inj H
            go_wp2_with (first | ((with_reducible refine gate_callee (f := 7) rfl ?_); refine goesL_ (some 37) rfl rfl Tryd.func7 (by kernel_rfl) rfl #[.string a0] rfl (by (try simp only [List.map_toArray, List.map_cons, List.map_nil]); first | done | rfl | (simp only [List.length_drop, List.length_take]; rfl)) ?_; (with_reducible refine (code_Parse.calls kj2 a0 t8 t9 _ ?side1 A21.out).mono ?_); (case side1 => first | (refine LaidW.below HLD.out ?_; with_reducible exact HB.out) | (refine LaidW.below HLD.out ?_; with_reducible apply pw_below_drewN; with_reducible exact HB.out) | (refine LaidW.below HLD.out ?_; with_reducible apply below_alloc; with_reducible exact HB.out) | (refine LaidW.below HLD.out ?_; repeat (first | (with_reducible first | exact HB.out | apply below_alloc | apply pw_below_drewN | apply below_drew1) | exact HB.out); done) | exact HLD.out | (repeat (first | exact HLD.out | (with_reducible refine LaidW.drewN ?_ _) | (with_reducible refine LaidW.drew ?_) | (with_reducible refine LaidW.alloc ?_ _)))); rintro e w38 ⟨v10, rfl, ho0, hb⟩; refine ⟨_, rfl, ?_⟩; have n0_ := Aside0.mk (Kd.R_lower ho0 (below_size (by repeat (first | (with_reducible first | exact HB.out | apply below_alloc | apply pw_below_drewN | apply below_drew1) | exact HB.out)))); have n1_ := Aside0.mk (below_step (by repeat (first | (with_reducible first | exact HB.out | apply below_alloc | apply pw_below_drewN | apply below_drew1) | exact HB.out)) hb); clear HB; have HO11 := n0_; have HB := n1_; clear n0_ n1_; (try clear hb); (try clear hb2); (try clear hk); (try clear hi); (try clear ho0); obtain ⟨Ao39, co39, eo39⟩ := Kd.R_slice HO11.out; subst eo39) | ((with_reducible refine gate_callee (f := 8) rfl ?_); refine goesL_ (some 44) rfl rfl Tryd.func8 (by kernel_rfl) rfl #[.slice Ao39 t8.length co39] rfl (by (try simp only [List.map_toArray, List.map_cons, List.map_nil]); first | done | rfl | (simp only [List.length_drop, List.length_take]; rfl)) ?_; (with_reducible refine (code_Text.calls kj2 _ _ t8 t12 t13 _ ?side1 ?side2 ?side3 A23.out).mono ?_); (case side1 => repeat (first | exact (Kd.R_reads' HO11.out).2.2 | (with_reducible refine Kd.C_alloc ?_ _) | (with_reducible refine Kd.C_drewN ?_ _) | (with_reducible refine Kd.C_drew ?_))); (case side2 => exact (Kd.R_reads' HO11.out).2.1); (case side3 => first | (refine LaidW.below HLD.out ?_; with_reducible exact HB.out) | (refine LaidW.below HLD.out ?_; with_reducible apply pw_below_drewN; with_reducible exact HB.out) | (refine LaidW.below HLD.out ?_; with_reducible apply below_alloc; with_reducible exact HB.out) | (refine LaidW.below HLD.out ?_; repeat (first | (with_reducible first | exact HB.out | apply below_alloc | apply pw_below_drewN | apply below_drew1) | exact HB.out); done) | exact HLD.out | (repeat (first | exact HLD.out | (with_reducible refine LaidW.drewN ?_ _) | (with_reducible refine LaidW.drew ?_) | (with_reducible refine LaidW.alloc ?_ _)))); rintro e w40 ⟨rfl, hb⟩; refine ⟨_, rfl, ?_⟩; have n0_ := Aside0.mk (Kd.R_below (by (with_reducible repeat (first | apply Kd.R_alloc | apply Kd.R_drewN | apply Kd.R_drew)); exact HO11.out) hb); have n1_ := Aside0.mk (below_step (by repeat (first | (with_reducible first | exact HB.out | apply below_alloc | apply pw_below_drewN | apply below_drew1) | exact HB.out)) hb); clear HO11; clear HB; have HO11 := n0_; have HB := n1_; clear n0_ n1_; (try clear hb); (try clear hb2); (try clear hk); (try clear hi)))
            go_ret
            exact ⟨by first | rfl | (simp [errW_none, errW_some] <;> rfl) | (simp [*, errW_none, errW_some] <;> rfl), by repeat (first | (with_reducible first | exact HB.out | apply below_alloc | apply pw_below_drewN | apply below_drew1) | exact HB.out)⟩
        · rw [if_neg c24] at H
          have c24b0 : (t13 == 0) = false := beq_eq_false_iff_ne.mpr c24
          have c24b1 : (t13 != 0) = true := bne_iff_ne.mpr c24
          obtain rfl := Option.some.inj H
          go_wp2_with (first | ((with_reducible refine gate_callee (f := 7) rfl ?_); refine goesL_ (some 37) rfl rfl Tryd.func7 (by kernel_rfl) rfl #[.string a0] rfl (by (try simp only [List.map_toArray, List.map_cons, List.map_nil]); first | done | rfl | (simp only [List.length_drop, List.length_take]; rfl)) ?_; (with_reducible refine (code_Parse.calls kj2 a0 t8 t9 _ ?side1 A21.out).mono ?_); (case side1 => first | (refine LaidW.below HLD.out ?_; with_reducible exact HB.out) | (refine LaidW.below HLD.out ?_; with_reducible apply pw_below_drewN; with_reducible exact HB.out) | (refine LaidW.below HLD.out ?_; with_reducible apply below_alloc; with_reducible exact HB.out) | (refine LaidW.below HLD.out ?_; repeat (first | (with_reducible first | exact HB.out | apply below_alloc | apply pw_below_drewN | apply below_drew1) | exact HB.out); done) | exact HLD.out | (repeat (first | exact HLD.out | (with_reducible refine LaidW.drewN ?_ _) | (with_reducible refine LaidW.drew ?_) | (with_reducible refine LaidW.alloc ?_ _)))); rintro e w41 ⟨v10, rfl, ho0, hb⟩; refine ⟨_, rfl, ?_⟩; have n0_ := Aside0.mk (Kd.R_lower ho0 (below_size (by repeat (first | (with_reducible first | exact HB.out | apply below_alloc | apply pw_below_drewN | apply below_drew1) | exact HB.out)))); have n1_ := Aside0.mk (below_step (by repeat (first | (with_reducible first | exact HB.out | apply below_alloc | apply pw_below_drewN | apply below_drew1) | exact HB.out)) hb); clear HB; have HO11 := n0_; have HB := n1_; clear n0_ n1_; (try clear hb); (try clear hb2); (try clear hk); (try clear hi); (try clear ho0); obtain ⟨Ao42, co42, eo42⟩ := Kd.R_slice HO11.out; subst eo42) | ((with_reducible refine gate_callee (f := 8) rfl ?_); refine goesL_ (some 44) rfl rfl Tryd.func8 (by kernel_rfl) rfl #[.slice Ao42 t8.length co42] rfl (by (try simp only [List.map_toArray, List.map_cons, List.map_nil]); first | done | rfl | (simp only [List.length_drop, List.length_take]; rfl)) ?_; (with_reducible refine (code_Text.calls kj2 _ _ t8 t12 t13 _ ?side1 ?side2 ?side3 A23.out).mono ?_); (case side1 => repeat (first | exact (Kd.R_reads' HO11.out).2.2 | (with_reducible refine Kd.C_alloc ?_ _) | (with_reducible refine Kd.C_drewN ?_ _) | (with_reducible refine Kd.C_drew ?_))); (case side2 => exact (Kd.R_reads' HO11.out).2.1); (case side3 => first | (refine LaidW.below HLD.out ?_; with_reducible exact HB.out) | (refine LaidW.below HLD.out ?_; with_reducible apply pw_below_drewN; with_reducible exact HB.out) | (refine LaidW.below HLD.out ?_; with_reducible apply below_alloc; with_reducible exact HB.out) | (refine LaidW.below HLD.out ?_; repeat (first | (with_reducible first | exact HB.out | apply below_alloc | apply pw_below_drewN | apply below_drew1) | exact HB.out); done) | exact HLD.out | (repeat (first | exact HLD.out | (with_reducible refine LaidW.drewN ?_ _) | (with_reducible refine LaidW.drew ?_) | (with_reducible refine LaidW.alloc ?_ _)))); rintro e w43 ⟨rfl, hb⟩; refine ⟨_, rfl, ?_⟩; have n0_ := Aside0.mk (Kd.R_below (by (with_reducible repeat (first | apply Kd.R_alloc | apply Kd.R_drewN | apply Kd.R_drew)); exact HO11.out) hb); have n1_ := Aside0.mk (below_step (by repeat (first | (with_reducible first | exact HB.out | apply below_alloc | apply pw_below_drewN | apply below_drew1) | exact HB.out)) hb); clear HO11; clear HB; have HO11 := n0_; have HB := n1_; clear n0_ n1_; (try clear hb); (try clear hb2); (try clear hk); (try clear hi)))
          go_ret
          exact ⟨by first | rfl | (simp [errW_none, errW_some] <;> rfl) | (simp [*, errW_none, errW_some] <;> rfl), by repeat (first | (with_reducible first | exact HB.out | apply below_alloc | apply pw_below_drewN | apply below_drew1) | exact HB.out)⟩
      · rw [if_neg c22] at H
        have c22b0 : (t9 == 0) = false := beq_eq_false_iff_ne.mpr c22
        have c22b1 : (t9 != 0) = true := bne_iff_ne.mpr c22
        replace H := Option.bind_eq_some_iff.mp H
        obtain ⟨t16, A440, H⟩ := H
        replace H : (some t16) = some r := H
        have A44 := Aside0.mk A440
        clear A440
        obtain rfl := Option.some.inj H
        go_wp2_with (first | ((with_reducible refine gate_callee (f := 7) rfl ?_); refine goesL_ (some 37) rfl rfl Tryd.func7 (by kernel_rfl) rfl #[.string a0] rfl (by (try simp only [List.map_toArray, List.map_cons, List.map_nil]); first | done | rfl | (simp only [List.length_drop, List.length_take]; rfl)) ?_; (with_reducible refine (code_Parse.calls kj2 a0 t8 t9 _ ?side1 A21.out).mono ?_); (case side1 => first | (refine LaidW.below HLD.out ?_; with_reducible exact HB.out) | (refine LaidW.below HLD.out ?_; with_reducible apply pw_below_drewN; with_reducible exact HB.out) | (refine LaidW.below HLD.out ?_; with_reducible apply below_alloc; with_reducible exact HB.out) | (refine LaidW.below HLD.out ?_; repeat (first | (with_reducible first | exact HB.out | apply below_alloc | apply pw_below_drewN | apply below_drew1) | exact HB.out); done) | exact HLD.out | (repeat (first | exact HLD.out | (with_reducible refine LaidW.drewN ?_ _) | (with_reducible refine LaidW.drew ?_) | (with_reducible refine LaidW.alloc ?_ _)))); rintro e w45 ⟨v10, rfl, ho0, hb⟩; refine ⟨_, rfl, ?_⟩; have n0_ := Aside0.mk (Kd.R_lower ho0 (below_size (by repeat (first | (with_reducible first | exact HB.out | apply below_alloc | apply pw_below_drewN | apply below_drew1) | exact HB.out)))); have n1_ := Aside0.mk (below_step (by repeat (first | (with_reducible first | exact HB.out | apply below_alloc | apply pw_below_drewN | apply below_drew1) | exact HB.out)) hb); clear HB; have HO11 := n0_; have HB := n1_; clear n0_ n1_; (try clear hb); (try clear hb2); (try clear hk); (try clear hi); (try clear ho0)) | ((with_reducible refine gate_callee (f := 9) rfl ?_); refine goesL_ (some 59) rfl rfl Tryd.func9 (by kernel_rfl) rfl #[] rfl (by (try simp only [List.map_toArray, List.map_cons, List.map_nil]); first | done | rfl | (simp only [List.length_drop, List.length_take]; rfl)) ?_; (with_reducible refine (narcissuslaw02_awake.calls kj2  t16 _ ?side1 A44.out).mono ?_); (case side1 => first | (refine LaidW.below HLD.out ?_; with_reducible exact HB.out) | (refine LaidW.below HLD.out ?_; with_reducible apply pw_below_drewN; with_reducible exact HB.out) | (refine LaidW.below HLD.out ?_; with_reducible apply below_alloc; with_reducible exact HB.out) | (refine LaidW.below HLD.out ?_; repeat (first | (with_reducible first | exact HB.out | apply below_alloc | apply pw_below_drewN | apply below_drew1) | exact HB.out); done) | exact HLD.out | (repeat (first | exact HLD.out | (with_reducible refine LaidW.drewN ?_ _) | (with_reducible refine LaidW.drew ?_) | (with_reducible refine LaidW.alloc ?_ _)))); rintro e w46 ⟨rfl, hb⟩; refine ⟨_, rfl, ?_⟩; have n0_ := Aside0.mk (Kd.R_below (by (with_reducible repeat (first | apply Kd.R_alloc | apply Kd.R_drewN | apply Kd.R_drew)); exact HO11.out) hb); have n1_ := Aside0.mk (below_step (by repeat (first | (with_reducible first | exact HB.out | apply below_alloc | apply pw_below_drewN | apply below_drew1) | exact HB.out)) hb); clear HO11; clear HB; have HO11 := n0_; have HB := n1_; clear n0_ n1_; (try clear hb); (try clear hb2); (try clear hk); (try clear hi)))
        go_ret
        exact ⟨by first | rfl | (simp [errW_none, errW_some] <;> rfl) | (simp [*, errW_none, errW_some] <;> rfl), by repeat (first | (with_reducible first | exact HB.out | apply below_alloc | apply pw_below_drewN | apply below_drew1) | exact HB.out)⟩

end Go.Proofs.YtfckjfoalpkpjaaDoor.C
