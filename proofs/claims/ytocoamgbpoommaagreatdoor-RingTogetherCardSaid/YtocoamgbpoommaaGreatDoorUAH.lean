/- Texts of this claim, together: what the functions return, and what they say in plain words. -/
import Derived.Test.YtocoamgbpoommaaGreatDoorUB
import Derived.Test.YtocoamgbpoommaaGreatDoorUT
import Derived.Test.YtocoamgbpoommaaGreatDoorUAG
import Derived.Test.YtocoamgbpoommaaGreatDoorUAF
import Derived.Test.YtocoamgbpoommaaGreatDoorUY
section
namespace Go.Proofs.YtocoamgbpoommaaGreatDoor.C
open Go.RowKit Go.Proofs.YtocoamgbpoommaaGreatDoorW.PrintWords Go.Proofs.YtocoamgbpoommaaGreatDoorW.PrintLast Go.Proofs.YtocoamgbpoommaaGreatDoorW.PrintMore
attribute [local go_sem] max2_int min2_int max_two min_two max_three min_three max_four min_four
set_option linter.unusedVariables false
set_option linter.unusedSimpArgs false

/-! ### narcissusref08_Valid: function 13 -/
def narcissusref08_Valid.l0 : Nat → List (List (S72)) → Int → Option (Bool)
 | 0, _, _ => none
 | k + 1, x0, x3 => if x3 < (x0.length : Int) then (if 0 ≤ x3 then ((narcissusref02_Valid.f k (rd_L3 x0 x3)).bind fun t2 => (if t2 = true then (narcissusref08_Valid.l0 k x0 (wrap64 (x3 + 1))) else (some false))) else (none)) else (some true)
def narcissusref08_Valid.f (k : Nat) (l0 : List (List (S72))) : Option (Bool) := narcissusref08_Valid.l0 k l0 0
theorem narcissusref08_Valid.mono_l : ∀ k, (∀ y0 y1, LeO (narcissusref08_Valid.l0 k y0 y1) (narcissusref08_Valid.l0 (k + 1) y0 y1))
 | 0 => fun _ _ r h => by simp [narcissusref08_Valid.l0] at h
 | k + 1 => by
  have ih0 := narcissusref08_Valid.mono_l k
  ·intro y0 y1
   unfold narcissusref08_Valid.l0
   repeat' first
   | (with_reducible exact ih0 _ _)
   | (with_reducible exact narcissusref02_Valid.mono _ _)
   | (with_reducible exact LeO.refl _)
   | (with_reducible exact LeO.none _)
   | (with_reducible refine LeO.ite ?_ ?_)
   | (with_reducible refine LeO.bind ?_ (fun _ => ?_))
   | exact ih0 _ _
   | exact narcissusref02_Valid.mono _ _
   | exact LeO.none _
   | refine LeO.ite ?_ ?_
   | refine LeO.bind ?_ (fun _ => ?_)
theorem narcissusref08_Valid.mono : ∀ a0 k, LeO (narcissusref08_Valid.f k a0) (narcissusref08_Valid.f (k + 1) a0) := by
 intro a0 k
 have ih0 := narcissusref08_Valid.mono_l k
 unfold narcissusref08_Valid.f
 repeat' first
   | (with_reducible exact ih0 _ _)
   | (with_reducible exact narcissusref02_Valid.mono _ _)
   | (with_reducible exact LeO.refl _)
   | (with_reducible exact LeO.none _)
   | (with_reducible refine LeO.ite ?_ ?_)
   | (with_reducible refine LeO.bind ?_ (fun _ => ?_))
   | exact ih0 _ _
   | exact narcissusref02_Valid.mono _ _
   | exact LeO.none _
   | refine LeO.ite ?_ ?_
   | refine LeO.bind ?_ (fun _ => ?_)
set_option maxHeartbeats 8000000 in
set_option maxRecDepth 100000 in
theorem narcissusref08_Valid.calls (k : Nat) (A0 : Option Addr) (c0 : Nat) (l0 : List (List (S72))) (r : Bool) (w : World) (hr0 : Kd.C (Kd.slice 72 k72) w A0 l0.length l0) (hc0 : l0.length ≤ c0) (h : narcissusref08_Valid.f k l0 = some r) :
  Calls Tryz.prog 13 #[.slice A0 l0.length c0] w fun e w' => e = .returned (.bool r) ∧ Below w.heap.size w w' := by
 have HR0 := Aside0.mk hr0
 have HC0 := Aside0.mk hc0
 clear hr0 hc0
 have HB := Aside0.mk (Below.refl w.heap.size w)
 have H : (narcissusref08_Valid.l0 k l0 0) = some r := h
 clear h
 have H' := Aside0.mk H
 clear H
 go_enter Tryz.func13, Tryz.ntmps13
 go_wp2
 go_loopg [3] k (fun kq v3 w' => ∃ (x3_1 : Int), v3 = .int .i64 x3_1 ∧ Aside0 (narcissusref08_Valid.l0 kq l0 x3_1 = some r) ∧ Aside0 (kq ≤ k) ∧ Aside0 (Below w.heap.size w w'))
 case atStart => exact ⟨(0), (by first | rfl | (simp; done) | (simp [*]; done)), H', ⟨Nat.le_refl _⟩, ⟨by repeat (first | (with_reducible first | exact HB.out | apply below_alloc | apply pw_below_drewN | apply below_drew1) | exact HB.out)⟩⟩
 case round =>
  clear H'
  try clear c1
  obtain ⟨x3_1, rfl, HA, HK1, HB⟩ := hrel
  cases gk with
  | zero => exact absurd HA.out (by simp [narcissusref08_Valid.l0])
  | succ k1 =>
   have H := HA.out
   clear HA
   simp only [narcissusref08_Valid.l0] at H
   by_cases c2 : x3_1 < (l0.length : Int)
   ·rw [if_pos c2] at H
    have c2b0 : decide (x3_1 < (l0.length : Int)) = true := decide_eq_true c2
    clear c2
    by_cases c3 : 0 ≤ x3_1
    ·rw [if_pos c3] at H
     have c3b0 : decide (0 ≤ x3_1) = true := decide_eq_true c3
     clear c3
     replace H := Option.bind_eq_some_iff.mp H
     obtain ⟨t2, A40, H⟩ := H
     replace H : (if t2 = true then (narcissusref08_Valid.l0 k1 l0 (wrap64 (x3_1 + 1))) else (some false)) = some r := H
     have A4 := Aside0.mk A40
     clear A40
     by_cases c5 : t2 = true
     ·subst c5
      have H1 : (narcissusref08_Valid.l0 k1 l0 (wrap64 (x3_1 + 1))) = some r := by rw [if_pos rfl] at H; exact H
      clear H
      have H := H1
      clear H1
      have H' := Aside0.mk H
      clear H
      have p1 : 0 ≤ (x3_1 : Int) := of_decide_eq_true (by first | (with_reducible assumption) | assumption)
      have q1 : x3_1 < (l0.length : Int) := of_decide_eq_true (by first | (with_reducible assumption) | assumption)
      obtain ⟨ad1, A1_0, c1_0, e1, hx1_0, hl1_0, hi1_0⟩ := at_L3 HR0.out x3_1 p1 q1
      cases e1
      replace hx1_0 := (HB.out.cell (World.block_lt_of_cell? w _ hx1_0)).trans hx1_0
      have HR1_0 := Aside0.mk hi1_0
      have HC1_0 := Aside0.mk hl1_0
      clear hi1_0 hl1_0
      replace p1 := eq_true p1
      replace q1 := eq_true q1
      go_wp2_with (first | ((with_reducible refine gate_callee (f := 27) rfl ?_); refine goesL_ (some 14) rfl rfl Tryz.func27 (by kernel_rfl) rfl #[.slice A1_0 (rd_L3 l0 x3_1).length c1_0] rfl (by (try simp only [List.map_toArray, List.map_cons, List.map_nil]); first | done | rfl | (simp only [List.length_drop, List.length_take]; rfl)) ?_; (with_reducible refine (narcissusref02_Valid.calls k1 _ _ (rd_L3 l0 x3_1) true _ ?side1 ?side2 A4.out).mono ?_); (case side1 => repeat (first | exact (Kd.C_below HR1_0.out HB.out) | (with_reducible refine Kd.C_alloc ?_ _) | (with_reducible refine Kd.C_drewN ?_ _) | (with_reducible refine Kd.C_drew ?_))); (case side2 => exact HC1_0.out); rintro e w6 ⟨rfl, hb⟩; refine ⟨_, rfl, ?_⟩; have n0_ := Aside0.mk (below_step (by repeat (first | (with_reducible first | exact HB.out | apply below_alloc | apply pw_below_drewN | apply below_drew1) | exact HB.out)) hb); clear HB; have HB := n0_; clear n0_; (try clear hb); (try clear hb2); (try clear hk); (try clear hi)))
      go_roundg k1
      case measure => have := HK1.out; omega
      case rel => exact ⟨(wrap64 (x3_1 + 1)), (by first | rfl | (simp; done) | (simp [*]; done)), H', ⟨by have := HK1.out; omega⟩, ⟨by repeat (first | (with_reducible first | exact HB.out | apply below_alloc | apply pw_below_drewN | apply below_drew1) | exact HB.out)⟩⟩
     ·replace c5 := Bool.eq_false_iff.mpr c5
      subst c5
      have H1 : (some false) = some r := by rw [if_neg (show ¬ (false = true) by decide)] at H; exact H
      clear H
      have H := H1
      clear H1
      obtain rfl := Option.some.inj H
      have p1 : 0 ≤ (x3_1 : Int) := of_decide_eq_true (by first | (with_reducible assumption) | assumption)
      have q1 : x3_1 < (l0.length : Int) := of_decide_eq_true (by first | (with_reducible assumption) | assumption)
      obtain ⟨ad1, A1_0, c1_0, e1, hx1_0, hl1_0, hi1_0⟩ := at_L3 HR0.out x3_1 p1 q1
      cases e1
      replace hx1_0 := (HB.out.cell (World.block_lt_of_cell? w _ hx1_0)).trans hx1_0
      have HR1_0 := Aside0.mk hi1_0
      have HC1_0 := Aside0.mk hl1_0
      clear hi1_0 hl1_0
      replace p1 := eq_true p1
      replace q1 := eq_true q1
      go_wp2_with (first | ((with_reducible refine gate_callee (f := 27) rfl ?_); refine goesL_ (some 14) rfl rfl Tryz.func27 (by kernel_rfl) rfl #[.slice A1_0 (rd_L3 l0 x3_1).length c1_0] rfl (by (try simp only [List.map_toArray, List.map_cons, List.map_nil]); first | done | rfl | (simp only [List.length_drop, List.length_take]; rfl)) ?_; (with_reducible refine (narcissusref02_Valid.calls k1 _ _ (rd_L3 l0 x3_1) false _ ?side1 ?side2 A4.out).mono ?_); (case side1 => repeat (first | exact (Kd.C_below HR1_0.out HB.out) | (with_reducible refine Kd.C_alloc ?_ _) | (with_reducible refine Kd.C_drewN ?_ _) | (with_reducible refine Kd.C_drew ?_))); (case side2 => exact HC1_0.out); rintro e w7 ⟨rfl, hb⟩; refine ⟨_, rfl, ?_⟩; have n0_ := Aside0.mk (below_step (by repeat (first | (with_reducible first | exact HB.out | apply below_alloc | apply pw_below_drewN | apply below_drew1) | exact HB.out)) hb); clear HB; have HB := n0_; clear n0_; (try clear hb); (try clear hb2); (try clear hk); (try clear hi)))
      go_ret
      exact ⟨by first | rfl | (simp [errW_none, errW_some] <;> rfl) | (simp [*, errW_none, errW_some] <;> rfl), by repeat (first | (with_reducible first | exact HB.out | apply below_alloc | apply pw_below_drewN | apply below_drew1) | exact HB.out)⟩
    ·rw [if_neg c3] at H
     exact absurd H (by simp)
   ·rw [if_neg c2] at H
    have c2b0 : decide (x3_1 < (l0.length : Int)) = false := decide_eq_false c2
    clear c2
    obtain rfl := Option.some.inj H
    go_wp2
    go_ret
    exact ⟨by first | rfl | (simp [errW_none, errW_some] <;> rfl) | (simp [*, errW_none, errW_some] <;> rfl), by repeat (first | (with_reducible first | exact HB.out | apply below_alloc | apply pw_below_drewN | apply below_drew1) | exact HB.out)⟩

end Go.Proofs.YtocoamgbpoommaaGreatDoor.C
end
section
/- Lists of valid programs, as the reference looks at them. -/
namespace Go.Proofs.YtocoamgbpoommaaGreatDoor.Plain
open Go.Proofs.YtocoamgbpoommaaGreatDoor.C
open Go.RowKit Go.Proofs.YtocoamgbpoommaaGreatDoorW.PrintWords Go.Proofs.YtocoamgbpoommaaGreatDoorW.PrintLast Go.Proofs.YtocoamgbpoommaaGreatDoorW.PrintMore
set_option linter.unusedVariables false
set_option linter.unusedSimpArgs false

theorem validL_l (l : List (List Ins)) (hl : l.length ≤ 1000) (hf : ∀ p ∈ l, Fits p) : ∀ (d k i : Nat), l.length - i = d → i ≤ l.length → d + 4010000 < k →
    ∃ v, narcissusref08_Valid.l0 k l (i : Int) = some v ∧ (v = true ↔ ∀ p ∈ l.drop i, OKP p)
  | d, k, i, hd, hi, hk => by
    obtain ⟨k, rfl⟩ : ∃ m, k = m + 1 := ⟨k - 1, by omega⟩
    rw [narcissusref08_Valid.l0]
    by_cases h : i < l.length
    · have hdrop : l.drop i = l[i] :: l.drop (i + 1) := List.drop_eq_getElem_cons h
      rw [if_pos (by omega), if_pos (by omega), rd_prg l i h]
      obtain ⟨v, e, hv⟩ := refValidp_tells l[i] (hf _ (List.getElem_mem h)) k (by omega)
      rw [e, Option.bind_some, hdrop]
      cases v with
      | true =>
        obtain ⟨u, eu, hu⟩ := validL_l l hl hf (l.length - (i + 1)) k (i + 1) rfl (by omega) (by omega)
        rw [if_pos rfl, wrap_small (by omega) (by omega), show (i : Int) + 1 = ((i + 1 : Nat) : Int) from rfl, eu]
        refine ⟨u, rfl, hu.trans ⟨fun a p hp => ?_, fun a p hp => a p (List.mem_cons_of_mem _ hp)⟩⟩
        rcases List.mem_cons.1 hp with rfl | hp
        · exact hv.1 rfl
        · exact a p hp
      | false =>
        rw [if_neg (by decide)]
        exact ⟨false, rfl, fun h => (by cases h), fun a => hv.2 (a _ List.mem_cons_self)⟩
    · rw [if_neg (by omega), List.drop_eq_nil_of_le (by omega)]
      exact ⟨true, rfl, fun _ p hp => (by cases hp), fun _ => rfl⟩
  termination_by d => d
theorem validL_tells (l : List (List Ins)) (hl : l.length ≤ 1000) (hf : ∀ p ∈ l, Fits p) (k : Nat) (hk : 4020000 ≤ k) : ∃ v, narcissusref08_Valid.f k l = some v ∧ (v = true ↔ ∀ p ∈ l, OKP p) := by
  have := validL_l l hl hf l.length k 0 rfl (by omega) (by omega)
  exact this
theorem fitsL_fits {l : List (List Ins)} (h : FitsL l) : ∀ p ∈ l, Fits p := fun p hp x hx => by have := (h p hp).2 x hx; omega
end Go.Proofs.YtocoamgbpoommaaGreatDoor.Plain
end
section
namespace Go.Proofs.YtocoamgbpoommaaGreatDoor.C
open Go.RowKit Go.Proofs.YtocoamgbpoommaaGreatDoorW.PrintWords Go.Proofs.YtocoamgbpoommaaGreatDoorW.PrintLast Go.Proofs.YtocoamgbpoommaaGreatDoorW.PrintMore
attribute [local go_sem] max2_int min2_int max_two min_two max_three min_three max_four min_four
set_option linter.unusedVariables false
set_option linter.unusedSimpArgs false

/-! ### narcissusref08_Twin: function 12 -/
def narcissusref08_Twin.l0 : Nat → List (List (S72)) → List (List (S72)) → Int → Option ((List (List (S72))))
 | 0, _, _, _ => none
 | k + 1, x0, x3, x4 => if x4 < (x0.length : Int) then (if 0 ≤ x4 then ((narcissusref02_Twin.f (rd_L3 x0 x4)).bind fun t2 => (if x3.length < 5864062014805 then (narcissusref08_Twin.l0 k x0 (x3 ++ [t2]) (wrap64 (x4 + 1))) else (none))) else (none)) else (some x3)
def narcissusref08_Twin.f (k : Nat) (l0 : List (List (S72))) : Option ((List (List (S72)))) := narcissusref08_Twin.l0 k l0 ([] : List (List (S72))) 0
theorem narcissusref08_Twin.mono_l : ∀ k, (∀ y0 y1 y2, LeO (narcissusref08_Twin.l0 k y0 y1 y2) (narcissusref08_Twin.l0 (k + 1) y0 y1 y2))
 | 0 => fun _ _ _ r h => by simp [narcissusref08_Twin.l0] at h
 | k + 1 => by
  have ih0 := narcissusref08_Twin.mono_l k
  ·intro y0 y1 y2
   unfold narcissusref08_Twin.l0
   repeat' first
   | (with_reducible exact ih0 _ _ _)
   | (with_reducible exact LeO.refl _)
   | (with_reducible exact LeO.none _)
   | (with_reducible refine LeO.ite ?_ ?_)
   | (with_reducible refine LeO.bind ?_ (fun _ => ?_))
   | exact ih0 _ _ _
   | exact LeO.none _
   | refine LeO.ite ?_ ?_
   | refine LeO.bind ?_ (fun _ => ?_)
theorem narcissusref08_Twin.mono : ∀ a0 k, LeO (narcissusref08_Twin.f k a0) (narcissusref08_Twin.f (k + 1) a0) := by
 intro a0 k
 have ih0 := narcissusref08_Twin.mono_l k
 unfold narcissusref08_Twin.f
 repeat' first
   | (with_reducible exact ih0 _ _ _)
   | (with_reducible exact LeO.refl _)
   | (with_reducible exact LeO.none _)
   | (with_reducible refine LeO.ite ?_ ?_)
   | (with_reducible refine LeO.bind ?_ (fun _ => ?_))
   | exact ih0 _ _ _
   | exact LeO.none _
   | refine LeO.ite ?_ ?_
   | refine LeO.bind ?_ (fun _ => ?_)
set_option maxHeartbeats 8000000 in
set_option maxRecDepth 100000 in
theorem narcissusref08_Twin.calls (k : Nat) (A0 : Option Addr) (c0 : Nat) (l0 : List (List (S72))) (r : List (List (S72))) (w : World) (hr0 : Kd.C (Kd.slice 72 k72) w A0 l0.length l0) (hc0 : l0.length ≤ c0) (h : narcissusref08_Twin.f k l0 = some r) :
  Calls Tryz.prog 12 #[.slice A0 l0.length c0] w fun e w' => ∃ v0_ : Value, e = .returned (v0_) ∧ Kd.S (Kd.slice 72 k72) 47 w' w.heap.size (fun _ => True) v0_ r ∧ Below w.heap.size w w' := by
 have HR0 := Aside0.mk hr0
 have HC0 := Aside0.mk hc0
 clear hr0 hc0
 have HB := Aside0.mk (Below.refl w.heap.size w)
 have H : (narcissusref08_Twin.l0 k l0 ([] : List (List (S72))) 0) = some r := h
 clear h
 have H' := Aside0.mk H
 clear H
 go_enter Tryz.func12, Tryz.ntmps12
 go_wp2
 go_loopg [3, 4] k (fun kq v3 v4 w' => ∃ (x3_1 : List (List (S72))) (x4_1 : Int), v4 = .int .i64 x4_1 ∧ Aside0 (narcissusref08_Twin.l0 kq l0 x3_1 x4_1 = some r) ∧ Aside0 (kq ≤ k) ∧ Aside0 (Kd.S (Kd.slice 72 k72) 47 w' w.heap.size (fun _ => True) v3 x3_1) ∧ Aside0 (Below w.heap.size w w'))
 case atStart => exact ⟨(([] : List (List (S72)))), (0), (by first | rfl | (simp; done) | (simp [*]; done)), H', ⟨Nat.le_refl _⟩, ⟨by first | exact Kd.S_nil _ _ _ _ _ | exact Kd.N_nil _ _ _ _ _ | exact Kd.V_nil _ _ _ _ _ | exact Kd.Q_nil _ _ _ _ _ | exact Kd.R_nil _ _ _ _ _⟩, ⟨by repeat (first | (with_reducible first | exact HB.out | apply below_alloc | apply pw_below_drewN | apply below_drew1) | exact HB.out)⟩⟩
 case round =>
  clear H'
  try clear c1
  obtain ⟨x3_1, x4_1, rfl, HA, HK1, HO_3, HB⟩ := hrel
  cases gk with
  | zero => exact absurd HA.out (by simp [narcissusref08_Twin.l0])
  | succ k1 =>
   have H := HA.out
   clear HA
   simp only [narcissusref08_Twin.l0] at H
   by_cases c2 : x4_1 < (l0.length : Int)
   ·rw [if_pos c2] at H
    have c2b0 : decide (x4_1 < (l0.length : Int)) = true := decide_eq_true c2
    clear c2
    by_cases c3 : 0 ≤ x4_1
    ·rw [if_pos c3] at H
     have c3b0 : decide (0 ≤ x4_1) = true := decide_eq_true c3
     clear c3
     replace H := Option.bind_eq_some_iff.mp H
     obtain ⟨t2, A40, H⟩ := H
     replace H : (if x3_1.length < 5864062014805 then (narcissusref08_Twin.l0 k1 l0 (x3_1 ++ [t2]) (wrap64 (x4_1 + 1))) else (none)) = some r := H
     have A4 := Aside0.mk A40
     clear A40
     by_cases c5 : x3_1.length < 5864062014805
     ·rw [if_pos c5] at H
      have LMc5 := Aside0.mk c5
      clear c5
      obtain ⟨y5, hy5⟩ : ∃ y_ : List (List (S72)), y_ = (x3_1 ++ [t2]) := ⟨_, rfl⟩
      replace H : (narcissusref08_Twin.l0 k1 l0 y5 (wrap64 (x4_1 + 1))) = some r := by first | (rw [hy5]; with_reducible exact H) | (have H2_ := (Option.bind_some _ _).symm.trans H; rw [hy5]; with_reducible exact H2_) | (have H2_ := (Option.bind_some _ _).symm.trans H; with_reducible exact H2_) | with_reducible exact H | (rw [hy5]; exact H) | exact H
      have Ny5 := Aside0.mk hy5
      clear hy5
      have H' := Aside0.mk H
      clear H
      have p1 : 0 ≤ (x4_1 : Int) := of_decide_eq_true (by first | (with_reducible assumption) | assumption)
      have q1 : x4_1 < (l0.length : Int) := of_decide_eq_true (by first | (with_reducible assumption) | assumption)
      obtain ⟨ad1, A1_0, c1_0, e1, hx1_0, hl1_0, hi1_0⟩ := at_L3 HR0.out x4_1 p1 q1
      cases e1
      replace hx1_0 := (HB.out.cell (World.block_lt_of_cell? w _ hx1_0)).trans hx1_0
      have HR1_0 := Aside0.mk hi1_0
      have HC1_0 := Aside0.mk hl1_0
      clear hi1_0 hl1_0
      replace p1 := eq_true p1
      replace q1 := eq_true q1
      go_wp2_with (first | ((with_reducible refine gate_callee (f := 31) rfl ?_); refine goesL_ (some 16) rfl rfl Tryz.func31 (by kernel_rfl) rfl #[.slice A1_0 (rd_L3 l0 x4_1).length c1_0] rfl (by (try simp only [List.map_toArray, List.map_cons, List.map_nil]); first | done | rfl | (simp only [List.length_drop, List.length_take]; rfl)) ?_; (with_reducible refine (narcissusref02_Twin.calls _ _ (rd_L3 l0 x4_1) t2 _ ?side1 ?side2 A4.out).mono ?_); (case side1 => repeat (first | exact (Kd.C_below HR1_0.out HB.out) | (with_reducible refine Kd.C_alloc ?_ _) | (with_reducible refine Kd.C_drewN ?_ _) | (with_reducible refine Kd.C_drew ?_))); (case side2 => exact HC1_0.out); rintro e w6 ⟨v3, rfl, ho0, hb⟩; refine ⟨_, rfl, ?_⟩; have n0_ := Aside0.mk (Kd.S_elder' (by (with_reducible repeat (first | apply Kd.S_alloc | apply Kd.S_drewN | apply Kd.S_drew)); exact HO_3.out) (Kd.R_base ho0) hb); have n1_ := Aside0.mk (Kd.R_lower ho0 (below_size (by repeat (first | (with_reducible first | exact HB.out | apply below_alloc | apply pw_below_drewN | apply below_drew1) | exact HB.out)))); have n2_ := Aside0.mk (below_step (by repeat (first | (with_reducible first | exact HB.out | apply below_alloc | apply pw_below_drewN | apply below_drew1) | exact HB.out)) hb); clear HO_3; clear HB; have HO_3 := n0_; have HO4 := n1_; have HB := n2_; clear n0_ n1_ n2_; (try clear hb); (try clear hb2); (try clear hk); (try clear hi); (try clear ho0); obtain ⟨Ao8, co8, eo8⟩ := Kd.R_slice HO4.out; subst eo8) | ((with_reducible refine gate_builtin (b := .append) (xs := #[.tmp 11, .tmp 17]) rfl ?_); at_builtin; refine Kd.S_append (Kd.slice 72 k72) (w0 := w) w.heap.size rfl (.tmp 11) (.tmp 17) 22 47 (.slice none 0 0) 24 rfl Tryz.underlying22 info47 rfl (by decide) (by omega) u3 x3_1 t2 [.slice Ao8 t2.length co8] (fun _ => True) (fun k_ => some k_ = (.slice Ao8 t2.length co8 : Value).ownBlock) rfl rfl ?aP (fun k_ hk_ => ((Kd.R_mono (ok' := fun k_ => ((fun _ => True)) k_ ∧ some k_ ≠ (u3 : Value).ownBlock) (Kd.R_apart' (HO4.out) (Kd.S_typed HO_3.out) (by decide)) (fun k_ hk => ⟨trivial, hk.2⟩))).1 k_ hk_.symm) ?aF ?aO ?aB ?aS ?aL ?_; (case aP => exact Kd.M_row (Kd.R_mono (Kd.R_tight rfl (Kd.R_mono (ok' := fun k_ => ((fun _ => True)) k_ ∧ some k_ ≠ (u3 : Value).ownBlock) (Kd.R_apart' (HO4.out) (Kd.S_typed HO_3.out) (by decide)) (fun k_ hk => ⟨trivial, hk.2⟩))) (fun _ h_ => h_))); (case aB => exact (by repeat (first | (with_reducible first | exact HB.out | apply below_alloc | apply pw_below_drewN | apply below_drew1) | exact HB.out))); (case aF => exact (fun _ _ => trivial)); (case aO => exact (by (with_reducible repeat (first | apply Kd.S_alloc | apply Kd.S_drewN | apply Kd.S_drew)); exact Kd.S_mono HO_3.out (fun k_ hk => ⟨trivial, fun e_ => hk.2 e_⟩))); (case aS => exact (below_size (by repeat (first | (with_reducible first | exact HB.out | apply below_alloc | apply pw_below_drewN | apply below_drew1) | exact HB.out)))); (case aL => have := LMc5.out; first | omega | (simp only [lit_size, List.size_toArray, List.length_cons, List.length_nil]; omega)); intro v6 w7 ho hb hg hat; rw [← Ny5.out] at ho; have n0_ := Aside0.mk (hb); have n1_ := Aside0.mk (ho); clear HB; clear HO_3; clear HO4; have HB := n0_; have HO7 := n1_; clear n0_ n1_; clear ho hb hg hat))
      go_roundg k1
      case measure => have := HK1.out; omega
      case rel => exact ⟨(y5), (wrap64 (x4_1 + 1)), (by first | rfl | (simp; done) | (simp [*]; done)), H', ⟨by have := HK1.out; omega⟩, ⟨by (with_reducible repeat (first | apply Kd.S_alloc | apply Kd.S_drewN | apply Kd.S_drew)); exact HO7.out⟩, ⟨by repeat (first | (with_reducible first | exact HB.out | apply below_alloc | apply pw_below_drewN | apply below_drew1) | exact HB.out)⟩⟩
     ·rw [if_neg c5] at H
      exact absurd H (by simp)
    ·rw [if_neg c3] at H
     exact absurd H (by simp)
   ·rw [if_neg c2] at H
    have c2b0 : decide (x4_1 < (l0.length : Int)) = false := decide_eq_false c2
    clear c2
    obtain rfl := Option.some.inj H
    go_wp2
    go_ret
    exact ⟨_, by first | rfl | (simp [errW_none, errW_some] <;> rfl) | (simp [*, errW_none, errW_some] <;> rfl), by (with_reducible repeat (first | apply Kd.S_alloc | apply Kd.S_drewN | apply Kd.S_drew)); exact HO_3.out, by repeat (first | (with_reducible first | exact HB.out | apply below_alloc | apply pw_below_drewN | apply below_drew1) | exact HB.out)⟩

end Go.Proofs.YtocoamgbpoommaaGreatDoor.C
end
section
/- Lists of programs of any size: what the reference's Small, Twin and Same tell of them. -/
namespace Go.Proofs.YtocoamgbpoommaaGreatDoor.Plain
open Go.Proofs.YtocoamgbpoommaaGreatDoor.C
open Go.RowKit Go.Proofs.YtocoamgbpoommaaGreatDoorW.PrintWords Go.Proofs.YtocoamgbpoommaaGreatDoorW.PrintLast Go.Proofs.YtocoamgbpoommaaGreatDoorW.PrintMore
set_option linter.unusedVariables false
set_option linter.unusedSimpArgs false

theorem trees_any (p : List Ins) (hp : p.length ≤ 2932031007402) : ∀ (d k i : Nat) (s : Int), p.length - i = d → i ≤ p.length → d < k → ∃ v, narcissusref02_Trees.l0 k p s (i : Int) = some v
  | d, k, i, s, hd, hi, hk => by
    obtain ⟨k, rfl⟩ : ∃ m, k = m + 1 := ⟨k - 1, by omega⟩
    rw [narcissusref02_Trees.l0]
    by_cases h : i < p.length
    · rw [if_pos (by omega), if_pos (by omega), wrap_small (x := (i : Int) + 1) (by omega) (by omega), show (i : Int) + 1 = ((i + 1 : Nat) : Int) from rfl]
      exact trees_any p hp (p.length - (i + 1)) k (i + 1) _ rfl (by omega) (by omega)
    · rw [if_neg (by omega)]; exact ⟨_, rfl⟩
  termination_by d => d
theorem small_any (most : Int) (l : List (List Ins)) (hl : l.length ≤ 1000) (hz : ∀ p ∈ l, p.length ≤ 2932031007401) : ∀ (d k i : Nat) (s : Int), l.length - i = d → i ≤ l.length → d + 2932031007402 < k →
    ∃ v, narcissusref07_Small.l0 k most l s (i : Int) = some v
  | d, k, i, s, hd, hi, hk => by
    obtain ⟨k, rfl⟩ : ∃ m, k = m + 1 := ⟨k - 1, by omega⟩
    rw [narcissusref07_Small.l0]
    by_cases h : i < l.length
    · rw [if_pos (by omega), if_pos (by omega), rd_prg l i h]
      have hzi := hz l[i] (List.getElem_mem h)
      split
      · exact ⟨_, rfl⟩
      · obtain ⟨v, e⟩ : ∃ v, narcissusref02_Trees.f k l[i] = some v := trees_any l[i] (by omega) l[i].length k 0 0 rfl (by omega) (by omega)
        rw [e, Option.bind_some, wrap_small (x := (i : Int) + 1) (by omega) (by omega), show (i : Int) + 1 = ((i + 1 : Nat) : Int) from rfl]
        exact small_any most l hl hz (l.length - (i + 1)) k (i + 1) _ rfl (by omega) (by omega)
    · rw [if_neg (by omega)]; exact ⟨_, rfl⟩
  termination_by d => d
theorem small_has (most : Int) (l : List (List Ins)) (hl : l.length ≤ 1000) (hz : ∀ p ∈ l, p.length ≤ 2932031007401) (k : Nat) (hk : 2932031010000 ≤ k) : ∃ v, narcissusref07_Small.f k most l = some v :=
  small_any most l hl hz l.length k 0 0 rfl (by omega) (by omega)
theorem twinL_l (l : List (List Ins)) (hl : l.length ≤ 1000) (hz : ∀ p ∈ l, p.length ≤ 2932031007401) : ∀ (d k i : Nat), l.length - i = d → i ≤ l.length → d < k → narcissusref08_Twin.l0 k l (l.take i) (i : Int) = some l
  | d, k, i, hd, hi, hk => by
    obtain ⟨k, rfl⟩ : ∃ m, k = m + 1 := ⟨k - 1, by omega⟩
    rw [narcissusref08_Twin.l0]
    by_cases h : i < l.length
    · have hlt : (l.take i).length < 5864062014805 := by rw [List.length_take]; omega
      rw [if_pos (by omega), if_pos (by omega), rd_prg l i h, twin_tells l[i] (hz _ (List.getElem_mem h)), Option.bind_some, if_pos hlt, wrap_small (by omega) (by omega), show (i : Int) + 1 = ((i + 1 : Nat) : Int) from rfl, show l.take i ++ [l[i]] = l.take (i + 1) from (List.take_succ_eq_append_getElem h).symm]
      exact twinL_l l hl hz (l.length - (i + 1)) k (i + 1) rfl (by omega) (by omega)
    · rw [if_neg (by omega), List.take_of_length_le (by omega)]
  termination_by d => d
theorem twinL_tells (l : List (List Ins)) (hl : l.length ≤ 1000) (hz : ∀ p ∈ l, p.length ≤ 2932031007401) (k : Nat) (hk : 1001 ≤ k) : narcissusref08_Twin.f k l = some l :=
  twinL_l l hl hz l.length k 0 rfl (by omega) (by omega)
theorem sameL_any (a : List (List Ins)) (hl : a.length ≤ 1000000) (hz : ∀ p ∈ a, p.length ≤ 2932031007401) : ∀ (d k i : Nat), a.length - i = d → i ≤ a.length → d + 2932031007402 < k → narcissusref08_Same.l0 k a a (i : Int) = some true
  | d, k, i, hd, hi, hk => by
    obtain ⟨k, rfl⟩ : ∃ m, k = m + 1 := ⟨k - 1, by omega⟩
    rw [narcissusref08_Same.l0]
    by_cases h : i < a.length
    · have hzi := hz a[i] (List.getElem_mem h)
      rw [if_pos (by omega), if_pos (by omega), if_pos (by omega), rd_prg a i h, same_yes a[i] (by omega) k (by omega), Option.bind_some, if_pos rfl, wrap_small (by omega) (by omega), show (i : Int) + 1 = ((i + 1 : Nat) : Int) from rfl]
      exact sameL_any a hl hz (a.length - (i + 1)) k (i + 1) rfl (by omega) (by omega)
    · rw [if_neg (by omega)]
  termination_by d => d
theorem sameL_self (a : List (List Ins)) (hl : a.length ≤ 1000000) (hz : ∀ p ∈ a, p.length ≤ 2932031007401) (k : Nat) (hk : 2932041010000 ≤ k) : narcissusref08_Same.f k a a = some true := by
  unfold narcissusref08_Same.f
  rw [if_pos rfl]
  exact sameL_any a hl hz a.length k 0 rfl (by omega) (by omega)
end Go.Proofs.YtocoamgbpoommaaGreatDoor.Plain
end
section
/- The contract of the law RingTogether where the list is looked at. -/
namespace Go.Proofs.YtocoamgbpoommaaGreatDoor.C
open Go.RowKit Go.Proofs.YtocoamgbpoommaaGreatDoorW.PrintWords Go.Proofs.YtocoamgbpoommaaGreatDoorW.PrintLast Go.Proofs.YtocoamgbpoommaaGreatDoorW.PrintMore
set_option linter.unusedVariables false
set_option linter.unusedSimpArgs false

section
variable {m : Nat} {A : Option Addr} {c : Nat} {l : List Prg} {w : World} (hn : l.length = m) (hC : Kd.C (Kd.slice 72 k72) w A m l) (hc : m ≤ c) {k : Nat}
include hn hC hc
theorem tg_small {v : Bool} {most : Int} (h : narcissusref07_Small.f k most l = some v) : Calls Tryz.prog 10 #[.int .i64 most, .slice A m c] w fun e w' => e = .returned (.bool v) ∧ Drawn0 w w' := by
  subst hn; exact narcissusref07_Small.calls k most A c l v w hC hc h
theorem tg_valid {v : Bool} (h : narcissusref08_Valid.f k l = some v) : Calls Tryz.prog 13 #[.slice A m c] w fun e w' => e = .returned (.bool v) ∧ Below w.heap.size w w' := by
  subst hn; exact narcissusref08_Valid.calls k A c l v w hC hc h
theorem tg_tog {L : List Prg} {ev : Int} (hL : LaidW w) (h : ring_Together.f k l = some (L, ev)) : Calls Tryz.prog 15 #[.slice A m c] w fun e w' => ∃ v0_ : Value, e = .returned (.tuple #[v0_, .int .i64 ev]) ∧ Kd.S (Kd.slice 72 k72) 47 w' w.heap.size (fun _ => True) v0_ L ∧ Below w.heap.size w w' := by
  subst hn; exact ring_Together.calls k A c l L ev w hC hc hL h
theorem tg_twin {L : List Prg} (h : narcissusref08_Twin.f k l = some L) : Calls Tryz.prog 12 #[.slice A m c] w fun e w' => ∃ v0_ : Value, e = .returned v0_ ∧ Kd.S (Kd.slice 72 k72) 47 w' w.heap.size (fun _ => True) v0_ L ∧ Below w.heap.size w w' := by
  subst hn; exact narcissusref08_Twin.calls k A c l L w hC hc h
theorem tg_rtog {L : List Prg} {b : Bool} (h : narcissusref08_Together.f k l = some (L, b)) : Calls Tryz.prog 14 #[.slice A m c] w fun e w' => ∃ v0_ : Value, e = .returned (.tuple #[v0_, .bool b]) ∧ Kd.S (Kd.slice 72 k72) 47 w' w.heap.size (fun _ => True) v0_ L ∧ Below w.heap.size w w' := by
  subst hn; exact narcissusref08_Together.calls k A c l L b w hC hc h
theorem tg_same {A2 : Option Addr} {c2 : Nat} (hC2 : Kd.C (Kd.slice 72 k72) w A2 m l) (hc2 : m ≤ c2) (h : narcissusref08_Same.f k l l = some true) :
    Calls Tryz.prog 16 #[.slice A m c, .slice A2 m c2] w fun e w' => e = .returned (.bool true) ∧ Drawn0 w w' := by
  subst hn; exact narcissusref08_Same.calls k A c l A2 c2 l true w hC hc hC2 hc2 h
end
set_option maxHeartbeats 16000000 in
set_option maxRecDepth 100000 in
theorem tog_law (A : Option Addr) (c : Nat) (l : List Prg) (m : Nat) (w : World) (hL : LaidW w) (hC : Kd.C (Kd.slice 72 k72) w A m l) (hcm : m ≤ c) (hn : l.length = m) (hm : m ≤ 100) (K : Nat)
    (hs : narcissusref07_Small.f K 2100000 l = some true) (htw : narcissusref08_Twin.f K l = some l) (D : List Prg) (d : Nat) (hd : D.length = d) (want : Int)
    (hg : (narcissusref08_Valid.f K l = some false ∧ want = 1 ∧ D = []) ∨ (narcissusref08_Valid.f K l = some true ∧ m < 1 ∧ want = 2 ∧ D = []) ∨ (narcissusref08_Valid.f K l = some true ∧ 1 ≤ m ∧ 40 < m ∧ want = 2 ∧ D = [])
      ∨ (narcissusref08_Valid.f K l = some true ∧ 1 ≤ m ∧ m ≤ 40 ∧ narcissusref08_Together.f K l = some (D, true) ∧ want = 0) ∨ (narcissusref08_Valid.f K l = some true ∧ 1 ≤ m ∧ m ≤ 40 ∧ narcissusref08_Together.f K l = some (D, false) ∧ want = 3))
    (ht : ring_Together.f K l = some (D, want)) (hsd : narcissusref08_Same.f K D D = some true) (hsl : narcissusref08_Same.f K l l = some true) (hdl : D.length ≤ 1000000) (hdz : ∀ p ∈ D, p.length ≤ 1000000) :
    Calls Tryz.prog 3 #[.slice A m c] w (Yes w) := by
  have t0 : decide (100 < (m : Int)) = false := decide_eq_false (by omega)
  have HB := Aside0.mk (Below.refl w.heap.size w)
  have HL := Aside0.mk hL
  have HC0 := Aside0.mk hC
  have HCM := Aside0.mk hcm
  have HN := Aside0.mk hn
  have HD := Aside0.mk hd
  have HS := Aside0.mk hs
  have HTWF := Aside0.mk htw
  have HTG := Aside0.mk ht
  have HSD := Aside0.mk hsd
  have HSL := Aside0.mk hsl
  have HDZ : Aside0 (D.length ≤ 1000000 ∧ ∀ p ∈ D, p.length ≤ 1000000) := ⟨hdl, hdz⟩
  clear hL hC hcm hs htw ht hsd hsl hdl hdz
  rcases hg with ⟨h1, rfl, rfl⟩ | ⟨h1, h2, rfl, rfl⟩ | ⟨h1, h2, h3, rfl, rfl⟩ | ⟨h1, h2, h3, h4, rfl⟩ | ⟨h1, h2, h3, h4, rfl⟩
  case' inl => obtain rfl : d = 0 := hd.symm; have HVL := Aside0.mk h1; have HDU : Aside0 (Kd.C (Kd.slice 72 k72) w none 0 []) := ⟨Kd.C_nil _ _⟩; have HCD : Aside0 (0 ≤ 0) := ⟨Nat.le_refl _⟩; clear h1
  case' inr.inl => obtain rfl : d = 0 := hd.symm; have HVL := Aside0.mk h1; have HDU : Aside0 (Kd.C (Kd.slice 72 k72) w none 0 []) := ⟨Kd.C_nil _ _⟩; have HCD : Aside0 (0 ≤ 0) := ⟨Nat.le_refl _⟩; have t1 : decide ((m : Int) < 1) = true := decide_eq_true (by omega); clear h1 h2
  case' inr.inr.inl => obtain rfl : d = 0 := hd.symm; have HVL := Aside0.mk h1; have HDU : Aside0 (Kd.C (Kd.slice 72 k72) w none 0 []) := ⟨Kd.C_nil _ _⟩; have HCD : Aside0 (0 ≤ 0) := ⟨Nat.le_refl _⟩; have t1 : decide ((m : Int) < 1) = false := decide_eq_false (by omega); have t2 : decide (40 < (m : Int)) = true := decide_eq_true (by omega); clear h1 h2 h3
  case' inr.inr.inr.inl => have HVL := Aside0.mk h1; have HRT := Aside0.mk h4; have t1 : decide ((m : Int) < 1) = false := decide_eq_false (by omega); have t2 : decide (40 < (m : Int)) = false := decide_eq_false (by omega); clear h1 h2 h3 h4
  case' inr.inr.inr.inr => have HVL := Aside0.mk h1; have HRT := Aside0.mk h4; have t1 : decide ((m : Int) < 1) = false := decide_eq_false (by omega); have t2 : decide (40 < (m : Int)) = false := decide_eq_false (by omega); clear h1 h2 h3 h4
  all_goals
    clear hd
    go_enter Tryz.func3, Tryz.ntmps3
    go_wp2_with (first
      | (go_at_call 10; (with_reducible refine (tg_small HN.out (Kd.C_below HC0.out HB.out) HCM.out HS.out).mono ?_); rintro e w1 ⟨rfl, ⟨n1, rfl⟩⟩; have HB := Aside0.mk (pw_below_drewN HB.out n1))
      | (go_at_call 12; (with_reducible refine (tg_twin HN.out (Kd.C_below HC0.out HB.out) HCM.out HTWF.out).mono ?_); rintro e w2 ⟨vt, rfl, hst, hb2⟩; have hs1 := Kd.S_R hst; obtain ⟨At, ct, hvt, hct, hCt⟩ := Kd.R_reads hs1; rw [HN.out] at hvt hct hCt; subst hvt; have HTW := Aside0.mk hCt; have HCT := Aside0.mk hct; have HB := Aside0.mk (below_then HB.out HB.out.size hb2); clear hst hs1 hct hCt hb2)
      | (go_at_call 13; (with_reducible refine (tg_valid HN.out HTW.out HCT.out HVL.out).mono ?_); rintro e w3 ⟨rfl, hb3⟩; have HTW := Aside0.mk (Kd.C_below HTW.out hb3); have HB := Aside0.mk (below_then HB.out HB.out.size hb3); clear hb3)
      | (go_at_call 14; (with_reducible refine (tg_rtog HN.out HTW.out HCT.out HRT.out).mono ?_); rintro e w3 ⟨vd, rfl, hsd, hb3⟩; have hs1 := Kd.S_R hsd; obtain ⟨Ad, cd, hvd, hcd, hCd⟩ := Kd.R_reads hs1; rw [HD.out] at hvd hcd hCd; subst hvd; have HDU := Aside0.mk hCd; have HCD := Aside0.mk hcd; have HTW := Aside0.mk (Kd.C_below HTW.out hb3); have HB := Aside0.mk (below_then HB.out HB.out.size hb3); clear hsd hs1 hcd hCd hb3))
    try have HDU := Aside0.mk (Kd.C_below HDU.out HB.out)
    go_loopg [8] 3 (fun kq v8 wr => ∃ i : Nat, v8 = .int .i64 i ∧ i ≤ 2 ∧ Aside0 (kq = 2 - i + 1) ∧ Aside0 (Below w3.heap.size w3 wr))
    case atStart => exact ⟨0, rfl, Nat.zero_le _, ⟨by omega⟩, ⟨Below.refl _ _⟩⟩
    case round =>
      obtain ⟨i, rfl, hi, HI, HBR⟩ := hrel
      have HBW := Aside0.mk (below_then HB.out HB.out.size HBR.out)
      have HTW := Aside0.mk (Kd.C_below HTW.out HBR.out)
      have HDU := Aside0.mk (Kd.C_below HDU.out HBR.out)
      have HC1 := Aside0.mk (Kd.C_below HC0.out HBW.out)
      by_cases hlt : i < 2
      · obtain ⟨k2, rfl⟩ : ∃ k2, gk = k2 + 1 := ⟨gk - 1, by have := HI.out; omega⟩
        have b2 : (i : Int) < 2 := by omega
        go_wp2_with (first
          | (go_at_call 15; (with_reducible refine (tg_tog HN.out HC1.out HCM.out (HL.out.below HBW.out) HTG.out).mono ?_); rintro e' w5 ⟨ve, rfl, hse, hb5⟩; have hs1 := Kd.S_R hse; obtain ⟨Ae, ce, hve, hce, hCe⟩ := Kd.R_reads hs1; rw [HD.out] at hve hce hCe; subst hve; have HSP : Aside0 (Spo _ _ _ _) := Aside0.mk (RowsI.of_S hse); have HE := Aside0.mk hCe; have HCE := Aside0.mk hce; have HB5 := Aside0.mk hb5; have HTW := Aside0.mk (Kd.C_below HTW.out hb5); have HDU := Aside0.mk (Kd.C_below HDU.out hb5); have HC1 := Aside0.mk (Kd.C_below HC1.out hb5); clear hse hs1 hce hCe hb5)
          | (go_at_call 16; first
              | ((with_reducible refine (tg_same HD.out HE.out HCE.out HDU.out HCD.out HSD.out).mono ?_); rintro e w6 ⟨rfl, ⟨n6, rfl⟩⟩)
              | ((with_reducible refine (tg_same HN.out (Kd.C_below HC1.out (pw_below_drewN (Below.refl _ _) _)) HCM.out (Kd.C_below HTW.out (pw_below_drewN (Below.refl _ _) _)) HCT.out HSL.out).mono ?_); rintro e w6 ⟨rfl, ⟨n7, rfl⟩⟩))
          | (go_at_call 17; refine (spoil_calls _ _ _ wr.heap.size (HSP.out.below (pw_below_drewN (Below.refl _ _) _)) HDZ.out.1 HDZ.out.2).mono ?_; rintro e w7 ⟨rfl, hb7⟩; have HB7 : Aside0 (Below wr.heap.size wr w7) := ⟨Below.trans (pw_below_drewN HB5.out _) hb7⟩; clear hb7))
        go_roundg k2
        case measure => omega
        case rel => exact ⟨i + 1, by go_num, by omega, ⟨by have := HI.out; omega⟩, ⟨below_then HBR.out HBR.out.size HB7.out⟩⟩
      · obtain rfl : i = 2 := by omega
        go_wp2_with (first
          | (go_at_call 16; (with_reducible refine (tg_same HN.out HC1.out HCM.out HTW.out HCT.out HSL.out).mono ?_); rintro e w6 ⟨rfl, ⟨n6, rfl⟩⟩; have HBW := Aside0.mk (pw_below_drewN HBW.out n6))
          | (go_at_call 11; (with_reducible refine (awake_calls _ (HL.out.below HBW.out)).mono ?_); rintro e w9 ⟨rfl, hb⟩; have HBW := Aside0.mk (below_then HBW.out HBW.out.size hb); clear hb))
        go_ret
        exact ⟨rfl, HBW.out⟩
end Go.Proofs.YtocoamgbpoommaaGreatDoor.C
end
section
/- The law RingTogether: what it returns, for every list. -/
namespace Go.Proofs.YtocoamgbpoommaaGreatDoor.C
open Go.RowKit Go.Proofs.YtocoamgbpoommaaGreatDoorW.PrintWords Go.Proofs.YtocoamgbpoommaaGreatDoorW.PrintLast Go.Proofs.YtocoamgbpoommaaGreatDoorW.PrintMore
open Go.Proofs.YtocoamgbpoommaaGreatDoor.Plain (OKP FitsL fitsL_fits validL_tells small_has twinL_tells sameL_self together_yes together_large together_form together_arg refT_form Fine madeL behind made_length behind_length made_small)
set_option linter.unusedVariables false
set_option linter.unusedSimpArgs false

set_option maxHeartbeats 2000000 in
set_option maxRecDepth 100000 in
/-- Where the law looks at the example alone. -/
theorem tog_out (A : Option Addr) (c : Nat) (l : List Prg) (m : Nat) (w : World) (hL : LaidW w) (hC : Kd.C (Kd.slice 72 k72) w A m l) (hcm : m ≤ c) (hn : l.length = m) (K : Nat)
    (hg : 100 < m ∨ (m ≤ 100 ∧ narcissusref07_Small.f K 2100000 l = some false)) :
    Calls Tryz.prog 3 #[.slice A m c] w (Yes w) := by
  have HB := Aside0.mk (Below.refl w.heap.size w)
  have HL := Aside0.mk hL
  have HC0 := Aside0.mk hC
  have HCM := Aside0.mk hcm
  have HN := Aside0.mk hn
  clear hL hC hcm
  rcases hg with h1 | ⟨h1, h2⟩
  case' inl => have t0 : decide (100 < (m : Int)) = true := decide_eq_true (by omega); clear h1
  case' inr => have t0 : decide (100 < (m : Int)) = false := decide_eq_false (by omega); have HS := Aside0.mk h2; clear h1 h2
  all_goals
    go_enter Tryz.func3, Tryz.ntmps3
    go_wp2_with (first
      | (go_at_call 10; (with_reducible refine (tg_small HN.out (Kd.C_below HC0.out HB.out) HCM.out HS.out).mono ?_); rintro e w1 ⟨rfl, ⟨n1, rfl⟩⟩; have HB := Aside0.mk (pw_below_drewN HB.out n1))
      | (go_at_call 11; (with_reducible refine (awake_calls _ (HL.out.below HB.out)).mono ?_); rintro e w9 ⟨rfl, hb⟩; have HB := Aside0.mk (below_then HB.out HB.out.size hb); clear hb))
    go_ret
    exact ⟨rfl, HB.out⟩
/-- The law's contract. -/
theorem narcissuslaw08_RingTogether.calls (A : Option Addr) (c : Nat) (l : List Prg) (w : World) (hC : Kd.C (Kd.slice 72 k72) w A l.length l) (hc : l.length ≤ c) (hL : LaidW w) (hf : FitsL l) :
    Calls Tryz.prog 3 #[.slice A l.length c] w fun e w' => e = .returned (.bool true) ∧ Below w.heap.size w w' := by
  show Calls _ _ _ _ (Yes w)
  by_cases h1 : 100 < l.length
  · exact tog_out A c l l.length w hL hC hc rfl 0 (.inl h1)
  replace h1 : l.length ≤ 100 := by omega
  have hz : ∀ p ∈ l, p.length ≤ 2932031007401 := fun p hp => by have := (hf p hp).1; omega
  obtain ⟨v, e3⟩ := small_has 2100000 l (by omega) hz 3000000000000 (by omega)
  cases v with
  | false => exact tog_out A c l l.length w hL hC hc rfl _ (.inr ⟨h1, e3⟩)
  | true =>
  have etw := twinL_tells l (by omega) hz 3000000000000 (by omega)
  have esl := sameL_self l (by omega) hz 3000000000000 (by omega)
  have es0 := sameL_self [] (by simp) (by simp) 3000000000000 (by omega)
  obtain ⟨v, e5, hv⟩ := validL_tells l (by omega) (fitsL_fits hf) 3000000000000 (by omega)
  cases v with
  | false =>
    have hno : ¬ ∀ p ∈ l, OKP p := fun h => by cases hv.2 h
    exact tog_law A c l l.length w hL hC hc rfl h1 _ e3 etw [] 0 rfl 1 (.inl ⟨e5, rfl, rfl⟩) (together_form hno _ (by omega)) es0 esl (by simp) (by simp)
  | true =>
  replace hv := hv.1 rfl
  by_cases h2 : l.length < 1
  · exact tog_law A c l l.length w hL hC hc rfl h1 _ e3 etw [] 0 rfl 2 (.inr (.inl ⟨e5, h2, rfl, rfl⟩)) (together_arg hv (.inl h2) _ (by omega)) es0 esl (by simp) (by simp)
  by_cases h3 : 40 < l.length
  · exact tog_law A c l l.length w hL hC hc rfl h1 _ e3 etw [] 0 rfl 2 (.inr (.inr (.inl ⟨e5, by omega, h3, rfl, rfl⟩))) (together_arg hv (.inr h3) _ (by omega)) es0 esl (by simp) (by simp)
  obtain ⟨r1, r2⟩ := refT_form hv (by omega) 3000000000000 (by omega)
  by_cases hfn : Fine l
  · have hms := made_small hfn
    have hlm : (madeL (behind l)).length ≤ 1000000 := by rw [made_length, behind_length]; omega
    exact tog_law A c l l.length w hL hC hc rfl h1 _ e3 etw (madeL (behind l)) _ rfl 0 (.inr (.inr (.inr (.inl ⟨e5, by omega, by omega, r1 hfn, rfl⟩)))) (together_yes hv (by omega) (by omega) hfn _ (by omega)) (sameL_self _ hlm (fun p hp => by have := hms p hp; omega) _ (by omega)) esl hlm hms
  · exact tog_law A c l l.length w hL hC hc rfl h1 _ e3 etw [] 0 rfl 3 (.inr (.inr (.inr (.inr ⟨e5, by omega, by omega, r2 hfn, rfl⟩)))) (together_large hv (by omega) (by omega) hfn _ (by omega)) es0 esl (by simp) (by simp)
end Go.Proofs.YtocoamgbpoommaaGreatDoor.C
end
