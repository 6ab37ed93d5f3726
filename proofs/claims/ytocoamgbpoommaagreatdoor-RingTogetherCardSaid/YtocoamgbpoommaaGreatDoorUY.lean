/- Texts of this claim, together: what the functions return, and what they say in plain words. -/
import Derived.Test.YtocoamgbpoommaaGreatDoorUB
import Derived.Test.YtocoamgbpoommaaGreatDoorUX
import Derived.Test.YtocoamgbpoommaaGreatDoorUL
import Derived.Test.YtocoamgbpoommaaGreatDoorUO
import Derived.Test.YtocoamgbpoommaaGreatDoorUW
section
namespace Go.Proofs.YtocoamgbpoommaaGreatDoor.C
open Go.RowKit Go.Proofs.YtocoamgbpoommaaGreatDoorW.PrintWords Go.Proofs.YtocoamgbpoommaaGreatDoorW.PrintLast Go.Proofs.YtocoamgbpoommaaGreatDoorW.PrintMore
attribute [local go_sem] max2_int min2_int max_two min_two max_three min_three max_four min_four
set_option linter.unusedVariables false
set_option linter.unusedSimpArgs false

/-! ### narcissusref08_Together: function 14 -/
mutual
def narcissusref08_Together.l0 : Nat → List (List (S72)) → List (List (S72)) → Int → Option ((List (List (S72))) × Bool)
 | 0, _, _, _ => none
 | k + 1, x0, x4, x6 => if x6 < (x0.length : Int) then (if 0 ≤ x6 then ((narcissusref08_Behind.f (rd_L3 x0 x6)).bind fun t2 => (if x4.length < 5864062014805 then (narcissusref08_Together.l0 k x0 (x4 ++ [t2]) (wrap64 (x6 + 1))) else (none))) else (none)) else ((narcissusref08_list.f k x4).bind fun bt8 => (if bt8.2 = true then (narcissusref08_Together.l1 k x0 x4 ([] : List (List (S72))) bt8.1 0) else (some (([] : List (List (S72))), false))))
def narcissusref08_Together.l1 : Nat → List (List (S72)) → List (List (S72)) → List (List (S72)) → ByteArray → Int → Option ((List (List (S72))) × Bool)
 | 0, _, _, _, _, _ => none
 | k + 1, x0, x4, x5, x7, x9 => if x9 < (x0.length : Int) then (if 0 ≤ x9 then (if x9 < (x4.length : Int) then ((narcissusref05_Spec.f (rd_L3 x4 x9) x7).bind fun t11 => (if x5.length < 5864062014805 then (narcissusref08_Together.l1 k x0 x4 (x5 ++ [t11]) x7 (wrap64 (x9 + 1))) else (none))) else (none)) else (none)) else ((narcissusref08_list.f k x5).bind fun bt17 => (if bt17.2 = true then (some (x5, true)) else (some (([] : List (List (S72))), false))))
end
def narcissusref08_Together.f (k : Nat) (l0 : List (List (S72))) : Option ((List (List (S72))) × Bool) := narcissusref08_Together.l0 k l0 ([] : List (List (S72))) 0
theorem narcissusref08_Together.mono_l : ∀ k, (∀ y0 y1 y2, LeO (narcissusref08_Together.l0 k y0 y1 y2) (narcissusref08_Together.l0 (k + 1) y0 y1 y2)) ∧ (∀ y0 y1 y2 y3 y4, LeO (narcissusref08_Together.l1 k y0 y1 y2 y3 y4) (narcissusref08_Together.l1 (k + 1) y0 y1 y2 y3 y4))
 | 0 => ⟨fun _ _ _ r h => by simp [narcissusref08_Together.l0] at h, fun _ _ _ _ _ r h => by simp [narcissusref08_Together.l1] at h⟩
 | k + 1 => by
  obtain ⟨ih0, ih1⟩ := narcissusref08_Together.mono_l k
  refine ⟨?_, ?_⟩
  ·intro y0 y1 y2
   unfold narcissusref08_Together.l0
   repeat' first
   | (with_reducible exact ih0 _ _ _)
   | (with_reducible exact ih1 _ _ _ _ _)
   | (with_reducible exact narcissusref08_list.mono _ _)
   | (with_reducible exact LeO.refl _)
   | (with_reducible exact LeO.none _)
   | (with_reducible refine LeO.ite ?_ ?_)
   | (with_reducible refine LeO.bind ?_ (fun _ => ?_))
   | exact ih0 _ _ _
   | exact ih1 _ _ _ _ _
   | exact narcissusref08_list.mono _ _
   | exact LeO.none _
   | refine LeO.ite ?_ ?_
   | refine LeO.bind ?_ (fun _ => ?_)
  ·intro y0 y1 y2 y3 y4
   unfold narcissusref08_Together.l1
   repeat' first
   | (with_reducible exact ih0 _ _ _)
   | (with_reducible exact ih1 _ _ _ _ _)
   | (with_reducible exact narcissusref08_list.mono _ _)
   | (with_reducible exact LeO.refl _)
   | (with_reducible exact LeO.none _)
   | (with_reducible refine LeO.ite ?_ ?_)
   | (with_reducible refine LeO.bind ?_ (fun _ => ?_))
   | exact ih0 _ _ _
   | exact ih1 _ _ _ _ _
   | exact narcissusref08_list.mono _ _
   | exact LeO.none _
   | refine LeO.ite ?_ ?_
   | refine LeO.bind ?_ (fun _ => ?_)
theorem narcissusref08_Together.mono : ∀ a0 k, LeO (narcissusref08_Together.f k a0) (narcissusref08_Together.f (k + 1) a0) := by
 intro a0 k
 obtain ⟨ih0, ih1⟩ := narcissusref08_Together.mono_l k
 unfold narcissusref08_Together.f
 repeat' first
   | (with_reducible exact ih0 _ _ _)
   | (with_reducible exact ih1 _ _ _ _ _)
   | (with_reducible exact narcissusref08_list.mono _ _)
   | (with_reducible exact LeO.refl _)
   | (with_reducible exact LeO.none _)
   | (with_reducible refine LeO.ite ?_ ?_)
   | (with_reducible refine LeO.bind ?_ (fun _ => ?_))
   | exact ih0 _ _ _
   | exact ih1 _ _ _ _ _
   | exact narcissusref08_list.mono _ _
   | exact LeO.none _
   | refine LeO.ite ?_ ?_
   | refine LeO.bind ?_ (fun _ => ?_)
set_option maxHeartbeats 8000000 in
set_option maxRecDepth 100000 in
theorem narcissusref08_Together.calls (k : Nat) (A0 : Option Addr) (c0 : Nat) (l0 : List (List (S72))) (r1 : List (List (S72))) (r2 : Bool) (w : World) (hr0 : Kd.C (Kd.slice 72 k72) w A0 l0.length l0) (hc0 : l0.length ≤ c0) (h : narcissusref08_Together.f k l0 = some (r1, r2)) :
  Calls Tryz.prog 14 #[.slice A0 l0.length c0] w fun e w' => ∃ v0_ : Value, e = .returned (.tuple #[v0_, .bool r2]) ∧ Kd.S (Kd.slice 72 k72) 47 w' w.heap.size (fun _ => True) v0_ r1 ∧ Below w.heap.size w w' := by
 have HR0 := Aside0.mk hr0
 have HC0 := Aside0.mk hc0
 clear hr0 hc0
 have HB := Aside0.mk (Below.refl w.heap.size w)
 have H : (narcissusref08_Together.l0 k l0 ([] : List (List (S72))) 0) = some (r1, r2) := h
 clear h
 have H' := Aside0.mk H
 clear H
 go_enter Tryz.func14, Tryz.ntmps14
 go_wp2
 go_loopg [4, 6] k (fun kq v4 v6 w' => ∃ (x4_1 : List (List (S72))) (x6_1 : Int), v6 = .int .i64 x6_1 ∧ Aside0 (narcissusref08_Together.l0 kq l0 x4_1 x6_1 = some (r1, r2)) ∧ Aside0 (kq ≤ k) ∧ Aside0 (Kd.S (Kd.slice 72 k72) 47 w' w.heap.size (fun _ => True) v4 x4_1) ∧ Aside0 (Below w.heap.size w w'))
 case atStart => exact ⟨(([] : List (List (S72)))), (0), (by first | rfl | (simp; done) | (simp [*]; done)), H', ⟨Nat.le_refl _⟩, ⟨by first | exact Kd.S_nil _ _ _ _ _ | exact Kd.N_nil _ _ _ _ _ | exact Kd.V_nil _ _ _ _ _ | exact Kd.Q_nil _ _ _ _ _ | exact Kd.R_nil _ _ _ _ _⟩, ⟨by repeat (first | (with_reducible first | exact HB.out | apply below_alloc | apply pw_below_drewN | apply below_drew1) | exact HB.out)⟩⟩
 case round =>
  clear H'
  try clear c1
  obtain ⟨x4_1, x6_1, rfl, HA, HK1, HO_4, HB⟩ := hrel
  cases gk with
  | zero => exact absurd HA.out (by simp [narcissusref08_Together.l0])
  | succ k1 =>
   have H := HA.out
   clear HA
   simp only [narcissusref08_Together.l0] at H
   by_cases c2 : x6_1 < (l0.length : Int)
   ·rw [if_pos c2] at H
    have c2b0 : decide (x6_1 < (l0.length : Int)) = true := decide_eq_true c2
    clear c2
    by_cases c3 : 0 ≤ x6_1
    ·rw [if_pos c3] at H
     have c3b0 : decide (0 ≤ x6_1) = true := decide_eq_true c3
     clear c3
     replace H := Option.bind_eq_some_iff.mp H
     obtain ⟨t2, A40, H⟩ := H
     replace H : (if x4_1.length < 5864062014805 then (narcissusref08_Together.l0 k1 l0 (x4_1 ++ [t2]) (wrap64 (x6_1 + 1))) else (none)) = some (r1, r2) := H
     have A4 := Aside0.mk A40
     clear A40
     by_cases c5 : x4_1.length < 5864062014805
     ·rw [if_pos c5] at H
      have LMc5 := Aside0.mk c5
      clear c5
      obtain ⟨y5, hy5⟩ : ∃ y_ : List (List (S72)), y_ = (x4_1 ++ [t2]) := ⟨_, rfl⟩
      replace H : (narcissusref08_Together.l0 k1 l0 y5 (wrap64 (x6_1 + 1))) = some (r1, r2) := by first | (rw [hy5]; with_reducible exact H) | (have H2_ := (Option.bind_some _ _).symm.trans H; rw [hy5]; with_reducible exact H2_) | (have H2_ := (Option.bind_some _ _).symm.trans H; with_reducible exact H2_) | with_reducible exact H | (rw [hy5]; exact H) | exact H
      have Ny5 := Aside0.mk hy5
      clear hy5
      have H' := Aside0.mk H
      clear H
      have p1 : 0 ≤ (x6_1 : Int) := of_decide_eq_true (by first | (with_reducible assumption) | assumption)
      have q1 : x6_1 < (l0.length : Int) := of_decide_eq_true (by first | (with_reducible assumption) | assumption)
      obtain ⟨ad1, A1_0, c1_0, e1, hx1_0, hl1_0, hi1_0⟩ := at_L3 HR0.out x6_1 p1 q1
      cases e1
      replace hx1_0 := (HB.out.cell (World.block_lt_of_cell? w _ hx1_0)).trans hx1_0
      have HR1_0 := Aside0.mk hi1_0
      have HC1_0 := Aside0.mk hl1_0
      clear hi1_0 hl1_0
      replace p1 := eq_true p1
      replace q1 := eq_true q1
      go_wp2_with (first | ((with_reducible refine gate_callee (f := 37) rfl ?_); refine goesL_ (some 21) rfl rfl Tryz.func37 (by kernel_rfl) rfl #[.slice A1_0 (rd_L3 l0 x6_1).length c1_0] rfl (by (try simp only [List.map_toArray, List.map_cons, List.map_nil]); first | done | rfl | (simp only [List.length_drop, List.length_take]; rfl)) ?_; (with_reducible refine (narcissusref08_Behind.calls _ _ (rd_L3 l0 x6_1) t2 _ ?side1 ?side2 A4.out).mono ?_); (case side1 => repeat (first | exact (Kd.C_below HR1_0.out HB.out) | (with_reducible refine Kd.C_alloc ?_ _) | (with_reducible refine Kd.C_drewN ?_ _) | (with_reducible refine Kd.C_drew ?_))); (case side2 => exact HC1_0.out); rintro e w6 ⟨v3, rfl, ho0, hb⟩; refine ⟨_, rfl, ?_⟩; have n0_ := Aside0.mk (Kd.S_elder' (by (with_reducible repeat (first | apply Kd.S_alloc | apply Kd.S_drewN | apply Kd.S_drew)); exact HO_4.out) (Kd.R_base ho0) hb); have n1_ := Aside0.mk (Kd.R_lower ho0 (below_size (by repeat (first | (with_reducible first | exact HB.out | apply below_alloc | apply pw_below_drewN | apply below_drew1) | exact HB.out)))); have n2_ := Aside0.mk (below_step (by repeat (first | (with_reducible first | exact HB.out | apply below_alloc | apply pw_below_drewN | apply below_drew1) | exact HB.out)) hb); clear HO_4; clear HB; have HO_4 := n0_; have HO4 := n1_; have HB := n2_; clear n0_ n1_ n2_; (try clear hb); (try clear hb2); (try clear hk); (try clear hi); (try clear ho0); obtain ⟨Ao8, co8, eo8⟩ := Kd.R_slice HO4.out; subst eo8) | ((with_reducible refine gate_builtin (b := .append) (xs := #[.tmp 16, .tmp 22]) rfl ?_); at_builtin; refine Kd.S_append (Kd.slice 72 k72) (w0 := w) w.heap.size rfl (.tmp 16) (.tmp 22) 22 47 (.slice none 0 0) 24 rfl Tryz.underlying22 info47 rfl (by decide) (by omega) u4 x4_1 t2 [.slice Ao8 t2.length co8] (fun _ => True) (fun k_ => some k_ = (.slice Ao8 t2.length co8 : Value).ownBlock) rfl rfl ?aP (fun k_ hk_ => ((Kd.R_mono (ok' := fun k_ => ((fun _ => True)) k_ ∧ some k_ ≠ (u4 : Value).ownBlock) (Kd.R_apart' (HO4.out) (Kd.S_typed HO_4.out) (by decide)) (fun k_ hk => ⟨trivial, hk.2⟩))).1 k_ hk_.symm) ?aF ?aO ?aB ?aS ?aL ?_; (case aP => exact Kd.M_row (Kd.R_mono (Kd.R_tight rfl (Kd.R_mono (ok' := fun k_ => ((fun _ => True)) k_ ∧ some k_ ≠ (u4 : Value).ownBlock) (Kd.R_apart' (HO4.out) (Kd.S_typed HO_4.out) (by decide)) (fun k_ hk => ⟨trivial, hk.2⟩))) (fun _ h_ => h_))); (case aB => exact (by repeat (first | (with_reducible first | exact HB.out | apply below_alloc | apply pw_below_drewN | apply below_drew1) | exact HB.out))); (case aF => exact (fun _ _ => trivial)); (case aO => exact (by (with_reducible repeat (first | apply Kd.S_alloc | apply Kd.S_drewN | apply Kd.S_drew)); exact Kd.S_mono HO_4.out (fun k_ hk => ⟨trivial, fun e_ => hk.2 e_⟩))); (case aS => exact (below_size (by repeat (first | (with_reducible first | exact HB.out | apply below_alloc | apply pw_below_drewN | apply below_drew1) | exact HB.out)))); (case aL => have := LMc5.out; first | omega | (simp only [lit_size, List.size_toArray, List.length_cons, List.length_nil]; omega)); intro v6 w7 ho hb hg hat; rw [← Ny5.out] at ho; have n0_ := Aside0.mk (hb); have n1_ := Aside0.mk (ho); clear HB; clear HO_4; clear HO4; have HB := n0_; have HO7 := n1_; clear n0_ n1_; clear ho hb hg hat))
      go_roundg k1
      case measure => have := HK1.out; omega
      case rel => exact ⟨(y5), (wrap64 (x6_1 + 1)), (by first | rfl | (simp; done) | (simp [*]; done)), H', ⟨by have := HK1.out; omega⟩, ⟨by (with_reducible repeat (first | apply Kd.S_alloc | apply Kd.S_drewN | apply Kd.S_drew)); exact HO7.out⟩, ⟨by repeat (first | (with_reducible first | exact HB.out | apply below_alloc | apply pw_below_drewN | apply below_drew1) | exact HB.out)⟩⟩
     ·rw [if_neg c5] at H
      exact absurd H (by simp)
    ·rw [if_neg c3] at H
     exact absurd H (by simp)
   ·rw [if_neg c2] at H
    have c2b0 : decide (x6_1 < (l0.length : Int)) = false := decide_eq_false c2
    clear c2
    replace H := Option.bind_eq_some_iff.mp H
    obtain ⟨⟨t8, t9⟩, A90, H⟩ := H
    replace H : (if t9 = true then (narcissusref08_Together.l1 k1 l0 x4_1 ([] : List (List (S72))) t8 0) else (some (([] : List (List (S72))), false))) = some (r1, r2) := H
    have A9 := Aside0.mk A90
    clear A90
    by_cases c10 : t9 = true
    ·subst c10
     have H1 : (narcissusref08_Together.l1 k1 l0 x4_1 ([] : List (List (S72))) t8 0) = some (r1, r2) := by rw [if_pos rfl] at H; exact H
     clear H
     have H := H1
     clear H1
     have H' := Aside0.mk H
     clear H
     obtain ⟨Ao11, co11, eo11⟩ := Kd.S_slice HO_4.out
     subst eo11
     go_wp2_with (first | ((with_reducible refine gate_callee (f := 38) rfl ?_); refine goesL_ (some 26) rfl rfl Tryz.func38 (by kernel_rfl) rfl #[.slice Ao11 x4_1.length co11] rfl (by (try simp only [List.map_toArray, List.map_cons, List.map_nil]); first | done | rfl | (simp only [List.length_drop, List.length_take]; rfl)) ?_; (with_reducible refine (narcissusref08_list.calls k1 _ _ x4_1 t8 true _ ?side1 ?side2 A9.out).mono ?_); (case side1 => repeat (first | exact (Kd.S_reads' HO_4.out).2.2 | (with_reducible refine Kd.C_alloc ?_ _) | (with_reducible refine Kd.C_drewN ?_ _) | (with_reducible refine Kd.C_drew ?_))); (case side2 => exact (Kd.S_reads' HO_4.out).2.1); rintro e w12 ⟨rfl, hb⟩; refine ⟨_, rfl, ?_⟩; have n0_ := Aside0.mk (Kd.S_below (by (with_reducible repeat (first | apply Kd.S_alloc | apply Kd.S_drewN | apply Kd.S_drew)); exact HO_4.out) hb); have n1_ := Aside0.mk (below_step (by repeat (first | (with_reducible first | exact HB.out | apply below_alloc | apply pw_below_drewN | apply below_drew1) | exact HB.out)) hb); clear HO_4; clear HB; have HO_4 := n0_; have HB := n1_; clear n0_ n1_; (try clear hb); (try clear hb2); (try clear hk); (try clear hi)))
     go_loopg [5, 9] k1 (fun kq v5 v9 w' => ∃ (x5_2 : List (List (S72))) (x9_2 : Int), v9 = .int .i64 x9_2 ∧ Aside0 (narcissusref08_Together.l1 kq l0 x4_1 x5_2 t8 x9_2 = some (r1, r2)) ∧ Aside0 (kq ≤ k1) ∧ Aside0 (Kd.S (Kd.slice 72 k72) 47 w' w.heap.size (fun k_ => some k_ ≠ (v5 : Value).ownBlock) (.slice Ao11 x4_1.length co11) x4_1) ∧ Aside0 (Kd.S (Kd.slice 72 k72) 47 w' w.heap.size (fun k_ => some k_ ≠ ((.slice Ao11 x4_1.length co11) : Value).ownBlock) v5 x5_2) ∧ Aside0 (Below w.heap.size w w'))
     case atStart => exact ⟨(([] : List (List (S72)))), (0), (by first | rfl | (simp; done) | (simp [*]; done)), H', ⟨Nat.le_refl _⟩, ⟨by (with_reducible repeat (first | apply Kd.S_alloc | apply Kd.S_drewN | apply Kd.S_drew)); exact Kd.S_mono HO_4.out (fun _ hk => (by simp [Value.ownBlock]))⟩, ⟨by first | exact Kd.S_nil _ _ _ _ _ | exact Kd.N_nil _ _ _ _ _ | exact Kd.V_nil _ _ _ _ _ | exact Kd.Q_nil _ _ _ _ _ | exact Kd.R_nil _ _ _ _ _⟩, ⟨by repeat (first | (with_reducible first | exact HB.out | apply below_alloc | apply pw_below_drewN | apply below_drew1) | exact HB.out)⟩⟩
     case round =>
      clear H'
      try clear c1
      try clear p1
      try clear q1
      try clear hx1
      try clear c2
      try clear c2b0
      try clear p2
      try clear c3
      try clear c3b0
      try clear c5
      try clear p6
      try clear c10
      try clear hx1_0
      try clear p1
      try clear q1
      obtain ⟨x5_2, x9_2, rfl, HA, HK2, HO_4, HO_5, HB⟩ := hrel
      cases gk with
      | zero => exact absurd HA.out (by simp [narcissusref08_Together.l1])
      | succ k2 =>
       have H := HA.out
       clear HA
       simp only [narcissusref08_Together.l1] at H
       by_cases c13 : x9_2 < (l0.length : Int)
       ·rw [if_pos c13] at H
        have c13b0 : decide (x9_2 < (l0.length : Int)) = true := decide_eq_true c13
        clear c13
        by_cases c14 : 0 ≤ x9_2
        ·rw [if_pos c14] at H
         have c14b0 : decide (0 ≤ x9_2) = true := decide_eq_true c14
         clear c14
         by_cases c15 : x9_2 < (x4_1.length : Int)
         ·rw [if_pos c15] at H
          have c15b0 : decide (x9_2 < (x4_1.length : Int)) = true := decide_eq_true c15
          clear c15
          replace H := Option.bind_eq_some_iff.mp H
          obtain ⟨t11, A160, H⟩ := H
          replace H : (if x5_2.length < 5864062014805 then (narcissusref08_Together.l1 k2 l0 x4_1 (x5_2 ++ [t11]) t8 (wrap64 (x9_2 + 1))) else (none)) = some (r1, r2) := H
          have A16 := Aside0.mk A160
          clear A160
          by_cases c17 : x5_2.length < 5864062014805
          ·rw [if_pos c17] at H
           have LMc17 := Aside0.mk c17
           clear c17
           obtain ⟨y14, hy14⟩ : ∃ y_ : List (List (S72)), y_ = (x5_2 ++ [t11]) := ⟨_, rfl⟩
           replace H : (narcissusref08_Together.l1 k2 l0 x4_1 y14 t8 (wrap64 (x9_2 + 1))) = some (r1, r2) := by first | (rw [hy14]; with_reducible exact H) | (have H2_ := (Option.bind_some _ _).symm.trans H; rw [hy14]; with_reducible exact H2_) | (have H2_ := (Option.bind_some _ _).symm.trans H; with_reducible exact H2_) | with_reducible exact H | (rw [hy14]; exact H) | exact H
           have Ny14 := Aside0.mk hy14
           clear hy14
           have H' := Aside0.mk H
           clear H
           have p10 : 0 ≤ (x9_2 : Int) := of_decide_eq_true (by first | (with_reducible assumption) | assumption)
           have q10 : x9_2 < (x4_1.length : Int) := of_decide_eq_true (by first | (with_reducible assumption) | assumption)
           obtain ⟨ad10, A10_0, c10_0, e10, hx10_0, hl10_0, hi10_0⟩ := at_L3 (Kd.S_reads' HO_4.out).2.2 x9_2 p10 q10
           cases e10
           obtain ⟨ce10, hce10, hMe10, hcc10⟩ := Kd.S_get HO_4.out [] x9_2 p10 (by first | exact q10 | exact of_decide_eq_true (by first | (with_reducible assumption) | assumption) | (have e_ := (Kd.S_reads' HO_4.out).1; omega))
           obtain ⟨ve10_0, rfl, ge10_0⟩ := hMe10
           have hv10_0 := hcc10 0 _ rfl
           rw [Nat.add_zero, show ((Kd.slice 72 k72)).sz = 1 from rfl, Nat.mul_one] at hv10_0
           replace hv10_0 := Option.some.inj (hv10_0.symm.trans hx10_0)
           rw [hv10_0] at ge10_0
           have HL10_0 := Aside0.mk (show Kd.R k72 72 _ _ _ _ (rd_L3 x4_1 x9_2) from ge10_0)
           clear hv10_0 ge10_0
           clear hcc10 hce10
           have HR10_0 := Aside0.mk hi10_0
           have HC10_0 := Aside0.mk hl10_0
           clear hi10_0 hl10_0
           replace p10 := eq_true p10
           replace q10 := eq_true q10
           go_wp2_with (first | ((with_reducible refine gate_callee (f := 39) rfl ?_); refine goesL_ (some 43) rfl rfl Tryz.func39 (by kernel_rfl) rfl #[.slice A10_0 (rd_L3 x4_1 x9_2).length c10_0, .string t8] rfl (by (try simp only [List.map_toArray, List.map_cons, List.map_nil]); first | done | rfl | (simp only [List.length_drop, List.length_take]; rfl)) ?_; (with_reducible refine (narcissusref05_Spec.calls _ _ (rd_L3 x4_1 x9_2) t8 t11 _ ?side1 ?side2 A16.out).mono ?_); (case side1 => repeat (first | exact (by repeat (first | (with_reducible exact HR10_0.out) | (with_reducible refine Kd.C_alloc ?_ _) | (with_reducible refine Kd.C_drewN ?_ _) | (with_reducible refine Kd.C_drew ?_) | exact HR10_0.out)) | (with_reducible refine Kd.C_alloc ?_ _) | (with_reducible refine Kd.C_drewN ?_ _) | (with_reducible refine Kd.C_drew ?_))); (case side2 => exact HC10_0.out); rintro e w18 ⟨v12, rfl, ho0, hb⟩; refine ⟨_, rfl, ?_⟩; have n0_ := Aside0.mk (Kd.S_elder' (by (with_reducible repeat (first | apply Kd.S_alloc | apply Kd.S_drewN | apply Kd.S_drew)); exact HO_4.out) (Kd.R_base ho0) hb); have n1_ := Aside0.mk (Kd.S_elder' (by (with_reducible repeat (first | apply Kd.S_alloc | apply Kd.S_drewN | apply Kd.S_drew)); exact HO_5.out) (Kd.R_base ho0) hb); have n2_ := Aside0.mk (Kd.R_elder' (by (with_reducible repeat (first | apply Kd.R_alloc | apply Kd.R_drewN | apply Kd.R_drew)); exact HL10_0.out) (Kd.R_base ho0) hb); have n3_ := Aside0.mk (Kd.R_lower (Kd.R_new' ho0 (Kd.R_lt (by (with_reducible repeat (first | apply Kd.R_alloc | apply Kd.R_drewN | apply Kd.R_drew)); exact HL10_0.out))) (below_size (by repeat (first | (with_reducible first | exact HB.out | apply below_alloc | apply pw_below_drewN | apply below_drew1) | exact HB.out)))); have n4_ := Aside0.mk (Kd.C_below (by repeat (first | (with_reducible exact HR10_0.out) | (with_reducible refine Kd.C_alloc ?_ _) | (with_reducible refine Kd.C_drewN ?_ _) | (with_reducible refine Kd.C_drew ?_) | exact HR10_0.out)) hb); have n5_ := Aside0.mk (below_step (by repeat (first | (with_reducible first | exact HB.out | apply below_alloc | apply pw_below_drewN | apply below_drew1) | exact HB.out)) hb); clear HO_4; clear HO_5; clear HL10_0; clear HR10_0; clear HB; have HO_4 := n0_; have HO_5 := n1_; have HL10_0 := n2_; have HO13 := n3_; have HR10_0 := n4_; have HB := n5_; clear n0_ n1_ n2_ n3_ n4_ n5_; (try clear hb); (try clear hb2); (try clear hk); (try clear hi); (try clear ho0); obtain ⟨Ao20, co20, eo20⟩ := Kd.R_slice HO13.out; subst eo20) | ((with_reducible refine gate_builtin (b := .append) (xs := #[.tmp 37, .tmp 44]) rfl ?_); at_builtin; refine Kd.S_append (Kd.slice 72 k72) (w0 := w) w.heap.size rfl (.tmp 37) (.tmp 44) 22 47 (.slice none 0 0) 24 rfl Tryz.underlying22 info47 rfl (by decide) (by omega) u5 x5_2 t11 [.slice Ao20 t11.length co20] (fun k_ => some k_ ≠ (.slice (some ad10) x4_1.length co11 : Value).ownBlock) (fun k_ => some k_ = (.slice Ao20 t11.length co20 : Value).ownBlock) rfl rfl ?aP (fun k_ hk_ => ((Kd.R_mono (ok' := fun k_ => ((fun k_ => some k_ ≠ (.slice (some ad10) x4_1.length co11 : Value).ownBlock)) k_ ∧ some k_ ≠ (u5 : Value).ownBlock) (Kd.R_apart' (Kd.R_apart' (HO13.out) (Kd.S_typed HO_4.out) (by decide)) (Kd.S_typed HO_5.out) (by decide)) (fun k_ hk => ⟨hk.1.2, hk.2⟩))).1 k_ hk_.symm) ?aF ?aO ?aB ?aS ?aL ?_; (case aP => exact Kd.M_row (Kd.R_mono (Kd.R_tight rfl (Kd.R_mono (ok' := fun k_ => ((fun k_ => some k_ ≠ (.slice (some ad10) x4_1.length co11 : Value).ownBlock)) k_ ∧ some k_ ≠ (u5 : Value).ownBlock) (Kd.R_apart' (Kd.R_apart' (HO13.out) (Kd.S_typed HO_4.out) (by decide)) (Kd.S_typed HO_5.out) (by decide)) (fun k_ hk => ⟨hk.1.2, hk.2⟩))) (fun _ h_ => h_))); (case aB => exact (by repeat (first | (with_reducible first | exact HB.out | apply below_alloc | apply pw_below_drewN | apply below_drew1) | exact HB.out))); (case aF => exact (fun k_ hk => Kd.fresh' (Kd.S_lt (by (with_reducible repeat (first | apply Kd.S_alloc | apply Kd.S_drewN | apply Kd.S_drew)); exact HO_4.out)) k_ hk)); (case aO => exact (by (with_reducible repeat (first | apply Kd.S_alloc | apply Kd.S_drewN | apply Kd.S_drew)); exact Kd.S_mono HO_5.out (fun k_ hk => ⟨hk.1, fun e_ => hk.2 e_⟩))); (case aS => exact (below_size (by repeat (first | (with_reducible first | exact HB.out | apply below_alloc | apply pw_below_drewN | apply below_drew1) | exact HB.out)))); (case aL => have := LMc17.out; first | omega | (simp only [lit_size, List.size_toArray, List.length_cons, List.length_nil]; omega)); intro v15 w19 ho hb hg hat; rw [← Ny14.out] at ho; have n0_ := Aside0.mk (Kd.S_after (ok := (fun k_ => some k_ ≠ (.slice Ao20 t11.length co20 : Value).ownBlock)) (by (with_reducible repeat (first | apply Kd.S_alloc | apply Kd.S_drewN | apply Kd.S_drew)); exact Kd.S_mono HO_4.out (fun _ hk => ⟨hk.2, hk.1⟩)) hg hat); have n1_ := Aside0.mk (Kd.R_after (ok := (fun k_ => some k_ ≠ (.slice (some ad10) x4_1.length co11 : Value).ownBlock ∧ some k_ ≠ (.slice Ao20 t11.length co20 : Value).ownBlock)) (by (with_reducible repeat (first | apply Kd.R_alloc | apply Kd.R_drewN | apply Kd.R_drew)); exact Kd.R_mono HL10_0.out (fun _ hk => ⟨⟨hk.1.2, hk.2⟩, hk.1.1⟩)) hg hat); have n2_ := Aside0.mk (hb); have n3_ := Aside0.mk (ho); clear HO_4; clear HL10_0; clear HB; clear HO_5; clear HO13; have HO_4 := n0_; have HL10_0 := n1_; have HB := n2_; have HO16 := n3_; clear n0_ n1_ n2_ n3_; clear ho hb hg hat))
           go_roundg k2
           case measure => have := HK1.out; have := HK2.out; omega
           case rel => exact ⟨(y14), (wrap64 (x9_2 + 1)), (by first | rfl | (simp; done) | (simp [*]; done)), H', ⟨by have := HK1.out; have := HK2.out; omega⟩, ⟨by (with_reducible repeat (first | apply Kd.S_alloc | apply Kd.S_drewN | apply Kd.S_drew)); exact Kd.S_mono HO_4.out (fun _ hk => hk.2)⟩, ⟨by (with_reducible repeat (first | apply Kd.S_alloc | apply Kd.S_drewN | apply Kd.S_drew)); exact HO16.out⟩, ⟨by repeat (first | (with_reducible first | exact HB.out | apply below_alloc | apply pw_below_drewN | apply below_drew1) | exact HB.out)⟩⟩
          ·rw [if_neg c17] at H
           exact absurd H (by simp)
         ·rw [if_neg c15] at H
          exact absurd H (by simp)
        ·rw [if_neg c14] at H
         exact absurd H (by simp)
       ·rw [if_neg c13] at H
        have c13b0 : decide (x9_2 < (l0.length : Int)) = false := decide_eq_false c13
        clear c13
        replace H := Option.bind_eq_some_iff.mp H
        obtain ⟨⟨t17, t18⟩, A210, H⟩ := H
        replace H : (if t18 = true then (some (x5_2, true)) else (some (([] : List (List (S72))), false))) = some (r1, r2) := H
        have A21 := Aside0.mk A210
        clear A210
        by_cases c22 : t18 = true
        ·subst c22
         have H1 : (some (x5_2, true)) = some (r1, r2) := by rw [if_pos rfl] at H; exact H
         clear H
         have H := H1
         clear H1
         simp only [Option.some.injEq, Prod.mk.injEq] at H
         obtain ⟨rfl, rfl⟩ := H
         obtain ⟨Ao23, co23, eo23⟩ := Kd.S_slice HO_5.out
         subst eo23
         go_wp2_with (first | ((with_reducible refine gate_callee (f := 38) rfl ?_); refine goesL_ (some 48) rfl rfl Tryz.func38 (by kernel_rfl) rfl #[.slice Ao23 x5_2.length co23] rfl (by (try simp only [List.map_toArray, List.map_cons, List.map_nil]); first | done | rfl | (simp only [List.length_drop, List.length_take]; rfl)) ?_; (with_reducible refine (narcissusref08_list.calls k2 _ _ x5_2 t17 true _ ?side1 ?side2 A21.out).mono ?_); (case side1 => repeat (first | exact (Kd.S_reads' HO_5.out).2.2 | (with_reducible refine Kd.C_alloc ?_ _) | (with_reducible refine Kd.C_drewN ?_ _) | (with_reducible refine Kd.C_drew ?_))); (case side2 => exact (Kd.S_reads' HO_5.out).2.1); rintro e w24 ⟨rfl, hb⟩; refine ⟨_, rfl, ?_⟩; have n0_ := Aside0.mk (Kd.S_below (by (with_reducible repeat (first | apply Kd.S_alloc | apply Kd.S_drewN | apply Kd.S_drew)); exact HO_4.out) hb); have n1_ := Aside0.mk (Kd.S_below (by (with_reducible repeat (first | apply Kd.S_alloc | apply Kd.S_drewN | apply Kd.S_drew)); exact HO_5.out) hb); have n2_ := Aside0.mk (below_step (by repeat (first | (with_reducible first | exact HB.out | apply below_alloc | apply pw_below_drewN | apply below_drew1) | exact HB.out)) hb); clear HO_4; clear HO_5; clear HB; have HO_4 := n0_; have HO_5 := n1_; have HB := n2_; clear n0_ n1_ n2_; (try clear hb); (try clear hb2); (try clear hk); (try clear hi)))
         go_ret2
         exact ⟨_, by first | rfl | (simp [errW_none, errW_some] <;> rfl) | (simp [*, errW_none, errW_some] <;> rfl), by (with_reducible repeat (first | apply Kd.S_alloc | apply Kd.S_drewN | apply Kd.S_drew)); exact Kd.S_mono HO_5.out (fun _ hk => trivial), by repeat (first | (with_reducible first | exact HB.out | apply below_alloc | apply pw_below_drewN | apply below_drew1) | exact HB.out)⟩
        ·replace c22 := Bool.eq_false_iff.mpr c22
         subst c22
         have H1 : (some (([] : List (List (S72))), false)) = some (r1, r2) := by rw [if_neg (show ¬ (false = true) by decide)] at H; exact H
         clear H
         have H := H1
         clear H1
         simp only [Option.some.injEq, Prod.mk.injEq] at H
         obtain ⟨rfl, rfl⟩ := H
         obtain ⟨Ao25, co25, eo25⟩ := Kd.S_slice HO_5.out
         subst eo25
         go_wp2_with (first | ((with_reducible refine gate_callee (f := 38) rfl ?_); refine goesL_ (some 48) rfl rfl Tryz.func38 (by kernel_rfl) rfl #[.slice Ao25 x5_2.length co25] rfl (by (try simp only [List.map_toArray, List.map_cons, List.map_nil]); first | done | rfl | (simp only [List.length_drop, List.length_take]; rfl)) ?_; (with_reducible refine (narcissusref08_list.calls k2 _ _ x5_2 t17 false _ ?side1 ?side2 A21.out).mono ?_); (case side1 => repeat (first | exact (Kd.S_reads' HO_5.out).2.2 | (with_reducible refine Kd.C_alloc ?_ _) | (with_reducible refine Kd.C_drewN ?_ _) | (with_reducible refine Kd.C_drew ?_))); (case side2 => exact (Kd.S_reads' HO_5.out).2.1); rintro e w26 ⟨rfl, hb⟩; refine ⟨_, rfl, ?_⟩; have n0_ := Aside0.mk (Kd.S_below (by (with_reducible repeat (first | apply Kd.S_alloc | apply Kd.S_drewN | apply Kd.S_drew)); exact HO_4.out) hb); have n1_ := Aside0.mk (Kd.S_below (by (with_reducible repeat (first | apply Kd.S_alloc | apply Kd.S_drewN | apply Kd.S_drew)); exact HO_5.out) hb); have n2_ := Aside0.mk (below_step (by repeat (first | (with_reducible first | exact HB.out | apply below_alloc | apply pw_below_drewN | apply below_drew1) | exact HB.out)) hb); clear HO_4; clear HO_5; clear HB; have HO_4 := n0_; have HO_5 := n1_; have HB := n2_; clear n0_ n1_ n2_; (try clear hb); (try clear hb2); (try clear hk); (try clear hi)))
         go_ret2
         exact ⟨_, by first | rfl | (simp [errW_none, errW_some] <;> rfl) | (simp [*, errW_none, errW_some] <;> rfl), by first | exact Kd.S_nil _ _ _ _ _ | exact Kd.N_nil _ _ _ _ _ | exact Kd.V_nil _ _ _ _ _ | exact Kd.Q_nil _ _ _ _ _ | exact Kd.R_nil _ _ _ _ _, by repeat (first | (with_reducible first | exact HB.out | apply below_alloc | apply pw_below_drewN | apply below_drew1) | exact HB.out)⟩
    ·replace c10 := Bool.eq_false_iff.mpr c10
     subst c10
     have H1 : (some (([] : List (List (S72))), false)) = some (r1, r2) := by rw [if_neg (show ¬ (false = true) by decide)] at H; exact H
     clear H
     have H := H1
     clear H1
     simp only [Option.some.injEq, Prod.mk.injEq] at H
     obtain ⟨rfl, rfl⟩ := H
     obtain ⟨Ao27, co27, eo27⟩ := Kd.S_slice HO_4.out
     subst eo27
     go_wp2_with (first | ((with_reducible refine gate_callee (f := 38) rfl ?_); refine goesL_ (some 26) rfl rfl Tryz.func38 (by kernel_rfl) rfl #[.slice Ao27 x4_1.length co27] rfl (by (try simp only [List.map_toArray, List.map_cons, List.map_nil]); first | done | rfl | (simp only [List.length_drop, List.length_take]; rfl)) ?_; (with_reducible refine (narcissusref08_list.calls k1 _ _ x4_1 t8 false _ ?side1 ?side2 A9.out).mono ?_); (case side1 => repeat (first | exact (Kd.S_reads' HO_4.out).2.2 | (with_reducible refine Kd.C_alloc ?_ _) | (with_reducible refine Kd.C_drewN ?_ _) | (with_reducible refine Kd.C_drew ?_))); (case side2 => exact (Kd.S_reads' HO_4.out).2.1); rintro e w28 ⟨rfl, hb⟩; refine ⟨_, rfl, ?_⟩; have n0_ := Aside0.mk (Kd.S_below (by (with_reducible repeat (first | apply Kd.S_alloc | apply Kd.S_drewN | apply Kd.S_drew)); exact HO_4.out) hb); have n1_ := Aside0.mk (below_step (by repeat (first | (with_reducible first | exact HB.out | apply below_alloc | apply pw_below_drewN | apply below_drew1) | exact HB.out)) hb); clear HO_4; clear HB; have HO_4 := n0_; have HB := n1_; clear n0_ n1_; (try clear hb); (try clear hb2); (try clear hk); (try clear hi)))
     go_ret2
     exact ⟨_, by first | rfl | (simp [errW_none, errW_some] <;> rfl) | (simp [*, errW_none, errW_some] <;> rfl), by first | exact Kd.S_nil _ _ _ _ _ | exact Kd.N_nil _ _ _ _ _ | exact Kd.V_nil _ _ _ _ _ | exact Kd.Q_nil _ _ _ _ _ | exact Kd.R_nil _ _ _ _ _, by repeat (first | (with_reducible first | exact HB.out | apply below_alloc | apply pw_below_drewN | apply below_drew1) | exact HB.out)⟩

end Go.Proofs.YtocoamgbpoommaaGreatDoor.C
end
section
/- Programs that know each other, in plain words: what the program's and the reference's lists, Spec and Together tell. -/
namespace Go.Proofs.YtocoamgbpoommaaGreatDoor.Plain
open Go.Proofs.YtocoamgbpoommaaGreatDoor.C
open Go.RowKit Go.Proofs.YtocoamgbpoommaaGreatDoorW.PrintWords Go.Proofs.YtocoamgbpoommaaGreatDoorW.PrintLast Go.Proofs.YtocoamgbpoommaaGreatDoorW.PrintMore
set_option linter.unusedVariables false
set_option linter.unusedSimpArgs false

/-! ### valid instructions -/
def VI (p : List Ins) : Prop := ∀ j (h : j < p.length), Right p[j] j p.length
theorem rd_ins (p : List Ins) (j : Nat) (h : j < p.length) : rd_T72 p (j : Int) = p[j] := rd_at p j h
theorem okp_iff {p : List Ins} : OKP p ↔ p.length ≤ 4000 ∧ sizes p ≤ 2000000 ∧ VI p := by
  unfold OKP VI
  exact and_congr_right fun _ => and_congr_right fun _ => ⟨fun h j hj => by rw [← rd_ins p j hj]; exact h j hj, fun h j hj => by rw [rd_ins p j hj]; exact h j hj⟩
theorem right_wider {x : Ins} {i m n : Int} (h : Right x i m) (hmn : m ≤ n) : Right x i n := by
  unfold Right at *
  rcases h with h | h | h | h
  · exact .inl h
  · exact .inr (.inl h)
  · exact .inr (.inr (.inl h))
  · exact .inr (.inr (.inr ⟨h.1, h.2.1, h.2.2.1, by omega, h.2.2.2.2⟩))
theorem right_on {x : Ins} {i n : Int} (m : Int) (hm : 0 ≤ m) (h : Right x i n) : Right x (m + i) (m + n) := by
  unfold Right at *
  rcases h with h | h | h | h
  · exact .inl h
  · exact .inr (.inl h)
  · exact .inr (.inr (.inl h))
  · exact .inr (.inr (.inr ⟨h.1, h.2.1, by omega, by omega, h.2.2.2.2⟩))
theorem vi_append {p q : List Ins} (hp : VI p) (hq : VI q) : VI (p ++ q) := by
  intro j hj
  rw [List.length_append] at hj
  by_cases h : j < p.length
  · rw [List.getElem_append_left h, List.length_append]
    exact right_wider (hp j h) (by omega)
  · rw [List.getElem_append_right (by omega), List.length_append]
    have := right_on (p.length : Int) (by omega) (hq (j - p.length) (by omega))
    rw [show (p.length : Int) + ((j - p.length : Nat) : Int) = (j : Int) from by omega] at this
    simpa using this
/-- A check of an instruction. -/
def rightB (x : Ins) (i n : Int) : Bool :=
  decide (0 ≤ x.f1 ∧ x.f1 < 32) && (
  (x.f0 == 0 && x.f2 == 0 && x.f3 == 0 && decide (x.f4.size ≤ 2000000) && endL (bl x.f4) 1 0 == some (bl x.f4).length) ||
  ((x.f0 == 1 || x.f0 == 3 || x.f0 == 4) && decide (0 ≤ x.f2 ∧ x.f2 < 32) && x.f3 == 0 && (bl x.f4).isEmpty) ||
  (x.f0 == 2 && decide (0 ≤ x.f2 ∧ x.f2 < 32) && decide (0 ≤ x.f3 ∧ x.f3 < 32) && (bl x.f4).isEmpty) ||
  (x.f0 == 5 && decide (-i ≤ x.f2) && decide (x.f2 ≤ n - i) && x.f3 == 0 && (bl x.f4).isEmpty))
theorem right_of_B {x : Ins} {i n : Int} (h : rightB x i n = true) : Right x i n := by
  unfold rightB at h
  simp only [Bool.and_eq_true, Bool.or_eq_true, decide_eq_true_eq, beq_iff_eq, List.isEmpty_iff] at h
  obtain ⟨h1, h⟩ := h
  unfold Right Reg ValidT
  rcases h with ((h | h) | h) | h
  · exact .inl ⟨h.1.1.1.1, h1, h.1.1.1.2, h.1.1.2, h.1.2, isT_iff.2 h.2⟩
  · exact .inr (.inl ⟨by have := h.1.1.1; omega, h1, h.1.1.2, h.1.2, h.2⟩)
  · exact .inr (.inr (.inl ⟨h.1.1.1, h1, h.1.1.2, h.1.2, h.2⟩))
  · exact .inr (.inr (.inr ⟨h.1.1.1.1, h1, h.1.1.1.2, h.1.1.2, h.1.2, h.2⟩))
def viB (p : List Ins) (n : Int) : Nat → List Ins → Bool
  | _, [] => true
  | i, x :: l => rightB x i n && viB p n (i + 1) l
theorem vi_of_B : ∀ (l : List Ins) (p : List Ins) (n : Int) (i : Nat), viB p n i l = true → ∀ j (h : j < l.length), Right l[j] ((i + j : Nat) : Int) n
  | x :: l, p, n, i, h, 0, _ => by
    unfold viB at h
    rw [Bool.and_eq_true] at h
    exact right_of_B h.1
  | x :: l, p, n, i, h, j + 1, hj => by
    unfold viB at h
    rw [Bool.and_eq_true] at h
    have := vi_of_B l p n (i + 1) h.2 j (by simpa using hj)
    rw [show i + 1 + j = i + (j + 1) from by omega] at this
    exact this
theorem vi_ringHead : VI ringHead := fun j hj => by
  have := vi_of_B ringHead ringHead ringHead.length 0 (by decide +kernel) j hj
  rwa [Nat.zero_add] at this
theorem ringHead_length : ringHead.length = 30 := rfl
def specHead (y : ByteArray) : List Ins := [⟨0, 1, 0, 0, y⟩, ⟨2, 0, 1, 0, ⟨#[]⟩⟩, ⟨0, 1, 0, 0, ⟨#[48]⟩⟩]
theorem vi_specHead {y : ByteArray} (h : ValidT y) : VI (specHead y) := by
  intro j hj
  match j, hj with
  | 0, _ => exact .inl ⟨rfl, ⟨show (0 : Int) ≤ 1 by decide, show (1 : Int) < 32 by decide⟩, rfl, rfl, h⟩
  | 1, _ => exact .inr (.inr (.inl ⟨rfl, ⟨show (0 : Int) ≤ 0 by decide, show (0 : Int) < 32 by decide⟩, ⟨show (0 : Int) ≤ 1 by decide, show (1 : Int) < 32 by decide⟩, ⟨show (0 : Int) ≤ 0 by decide, show (0 : Int) < 32 by decide⟩, rfl⟩))
  | 2, _ => exact .inl ⟨rfl, ⟨show (0 : Int) ≤ 1 by decide, show (1 : Int) < 32 by decide⟩, rfl, rfl, ⟨show (⟨#[48]⟩ : ByteArray).size ≤ 2000000 by decide, isT_nil⟩⟩
theorem vi_fits {p : List Ins} (h : VI p) : Fits p := by
  intro x hx
  obtain ⟨j, hj, rfl⟩ := List.getElem_of_mem hx
  rcases h j hj with h | h | h | h
  · have := h.2.2.2.2.1; omega
  · have h1 := h.2.2.2.2; rw [← bl_len, h1]; simp
  · have h1 := h.2.2.2.2; rw [← bl_len, h1]; simp
  · have h1 := h.2.2.2.2.2; rw [← bl_len, h1]; simp

/-! ### the list of the codes -/
def lsum : List (List Ins) → Nat
  | [] => 0
  | e :: l => 1 + (codeL e).length + lsum l
/-- The list of the codes of programs. -/
def tabL (rs : List (List Ins)) : List UInt8 := lst (rs.map codeL)
theorem tabL_length : ∀ l, (tabL l).length = lsum l + 1
  | [] => rfl
  | e :: l => by
    have := tabL_length l
    unfold tabL at *
    simp only [List.map_cons, lst, List.length_cons, List.length_append, lsum, this]
    omega
/-- All are valid, and their list is not too large. -/
def GoodL (l : List (List Ins)) : Prop := (∀ e ∈ l, OKP e) ∧ lsum l < 2000000
theorem rd_prg (l : List (List Ins)) (i : Nat) (h : i < l.length) : rd_L3 l (i : Int) = l[i] := by unfold rd_L3; simp [h]
open Classical in
theorem ringList_l (l : List (List Ins)) (hl : l.length ≤ 1000) : ∀ (d k i : Nat) (xs : List Int), l.length - i = d → i ≤ l.length → d + 4020 < k → xs.length < 2000000 →
    ((∀ e ∈ l.drop i, OKP e) ∧ xs.length + lsum (l.drop i) < 2000000 → ∃ r, ring_list.l0 k xs l (l.length : Int) (i : Int) = some (r, 0) ∧ bl r = xs.map (fun n => UInt8.ofNat n.toNat) ++ tabL (l.drop i)) ∧
    (¬ ((∀ e ∈ l.drop i, OKP e) ∧ xs.length + lsum (l.drop i) < 2000000) → ring_list.l0 k xs l (l.length : Int) (i : Int) = some (⟨#[]⟩, 3))
  | d, k, i, xs, hd, hi, hk, hx => by
    obtain ⟨k, rfl⟩ : ∃ m, k = m + 1 := ⟨k - 1, by omega⟩
    by_cases hlt : i < l.length
    · have hdrop : l.drop i = l[i] :: l.drop (i + 1) := List.drop_eq_getElem_cons hlt
      have hstep : ring_list.l0 (k + 1) xs l (l.length : Int) (i : Int) = (code_Valid.f k l[i]).bind fun t5 => (if t5 = true then ((code_Code.f k l[i]).bind fun bt6 => (if bt6.2 = 0 then ((some (xs ++ [49] : List Int)).bind fun y8 => (if y8.length + bt6.1.size < 140737488355328 then ((some (y8 ++ bytesOf bt6.1 : List Int)).bind fun y11 => (if (y11.length : Int) ≥ 2000000 then (some ((⟨#[]⟩ : ByteArray), 3)) else (ring_list.l0 k y11 l (l.length : Int) (wrap64 ((i : Int) + 1))))) else (none))) else (some ((⟨#[]⟩ : ByteArray), bt6.2)))) else (some ((⟨#[]⟩ : ByteArray), 3))) := by
        rw [ring_list.l0, if_pos (by omega), if_pos (by omega), if_pos (by omega), rd_prg l i hlt]
        simp only [if_pos (show xs.length < 140737488355328 by omega)]
      by_cases hok : OKP l[i]
      · have hsm := codeL_small hok
        rw [hstep, validp_yes (by omega) hok, Option.bind_some, if_pos rfl, code_yes (by omega) hok, hdrop]
        by_cases hz : 2000000 < (codeL l[i]).length
        · rw [if_pos hz, Option.bind_some, if_neg (by decide)]
          refine ⟨fun h => ?_, fun _ => rfl⟩
          have := h.2
          simp only [lsum] at this
          omega
        · rw [if_neg hz, Option.bind_some, if_pos rfl, Option.bind_some, List.length_append, List.length_singleton, bs_size, if_pos (by omega), Option.bind_some, List.length_append, List.length_append, List.length_singleton, bytesOf_length, bs_size]
          by_cases hy : ((xs.length + 1 + (codeL l[i]).length : Nat) : Int) ≥ 2000000
          · rw [if_pos hy]
            refine ⟨fun h => ?_, fun _ => rfl⟩
            have := h.2
            simp only [lsum] at this
            omega
          · rw [if_neg hy, wrap_small (by omega) (by omega), show (i : Int) + 1 = ((i + 1 : Nat) : Int) from rfl]
            have hn : (xs ++ [49] ++ bytesOf (bs (codeL l[i]))).length = xs.length + 1 + (codeL l[i]).length := by rw [List.length_append, List.length_append, List.length_singleton, bytesOf_length, bs_size]
            obtain ⟨h1, h2⟩ := ringList_l l hl (l.length - (i + 1)) k (i + 1) (xs ++ [49] ++ bytesOf (bs (codeL l[i]))) rfl (by omega) (by omega) (by rw [hn]; omega)
            rw [hn] at h1 h2
            constructor
            · rintro ⟨g1, g2⟩
              simp only [lsum] at g2
              obtain ⟨r, e, hr⟩ := h1 ⟨fun e he => g1 e (List.mem_cons_of_mem _ he), by omega⟩
              refine ⟨r, e, ?_⟩
              have e49 : ([49] : List Int).map (fun n : Int => UInt8.ofNat n.toNat) = [49] := rfl
              rw [hr, List.map_append, List.map_append, nums_bytes, e49, bl_bs]
              show _ = xs.map (fun n => UInt8.ofNat n.toNat) ++ (49 :: (codeL l[i] ++ tabL (l.drop (i + 1))))
              simp
            · intro hno
              refine h2 fun g => hno ⟨fun e he => ?_, ?_⟩
              · rcases List.mem_cons.1 he with rfl | he
                · exact hok
                · exact g.1 e he
              · have := g.2
                simp only [lsum]
                omega
      · rw [hstep, validp_no (by omega) hok, Option.bind_some, if_neg (by decide), hdrop]
        exact ⟨fun h => absurd (h.1 _ List.mem_cons_self) hok, fun _ => rfl⟩
    · rw [ring_list.l0, if_neg (by omega), if_pos (by omega), List.drop_eq_nil_of_le (by omega)]
      refine ⟨fun _ => ⟨_, rfl, ?_⟩, fun h => absurd ⟨fun e he => (by cases he), by simp only [lsum]; omega⟩ h⟩
      rw [bl_nums, List.map_append]
      rfl
  termination_by d => d
theorem ringList_yes {l : List (List Ins)} (hl : l.length ≤ 1000) (h : GoodL l) (k : Nat) (hk : 6000 ≤ k) : ring_list.f k l = some (bs (tabL l), 0) := by
  unfold ring_list.f
  obtain ⟨r, e, hr⟩ := (ringList_l l hl l.length k 0 [] rfl (by omega) (by omega) (by simp)).1 (by simpa [GoodL] using h)
  rw [show ((0 : Nat) : Int) = 0 from rfl] at e
  rw [e, eq_bs hr]
  rfl
theorem ringList_no {l : List (List Ins)} (hl : l.length ≤ 1000) (h : ¬ GoodL l) (k : Nat) (hk : 6000 ≤ k) : ring_list.f k l = some (bs [], 3) := by
  unfold ring_list.f
  have e := (ringList_l l hl l.length k 0 [] rfl (by omega) (by omega) (by simp)).2 (by simpa [GoodL] using h)
  rw [show ((0 : Nat) : Int) = 0 from rfl] at e
  rw [e]
  rfl
end Go.Proofs.YtocoamgbpoommaaGreatDoor.Plain
end
