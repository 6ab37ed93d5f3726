/- Texts of this claim, together: what the functions return, and what they say in plain words. -/
import Derived.Test.YtocoamgbpoommaaGreatDoorUB
import Derived.Test.YtocoamgbpoommaaGreatDoorUU
import Derived.Test.YtocoamgbpoommaaGreatDoorUX
import Derived.Test.YtocoamgbpoommaaGreatDoorUF
section
namespace Go.Proofs.YtocoamgbpoommaaGreatDoor.C
open Go.RowKit Go.Proofs.YtocoamgbpoommaaGreatDoorW.PrintWords Go.Proofs.YtocoamgbpoommaaGreatDoorW.PrintLast Go.Proofs.YtocoamgbpoommaaGreatDoorW.PrintMore
attribute [local go_sem] max2_int min2_int max_two min_two max_three min_three max_four min_four
set_option linter.unusedVariables false
set_option linter.unusedSimpArgs false
def narcissusref02_Regs.l0 : Nat → List (S72) → Int → Int → Option (Int)
 | 0, _, _, _ => none
 | k + 1, x0, x3, x4 => if x4 < (x0.length : Int) then (if 0 ≤ x4 then (if ((rd_T72 x0 x4).f0) = 5 then (narcissusref02_Regs.l0 k x0 (mx x3 (wrap64 (((rd_T72 x0 x4).f1) + 1))) (wrap64 (x4 + 1))) else (narcissusref02_Regs.l0 k x0 (mx (mx (mx x3 (wrap64 (((rd_T72 x0 x4).f1) + 1))) (wrap64 (((rd_T72 x0 x4).f2) + 1))) (wrap64 (((rd_T72 x0 x4).f3) + 1))) (wrap64 (x4 + 1)))) else (none)) else (some x3)
def narcissusref02_Regs.f (k : Nat) (l0 : List (S72)) : Option (Int) := narcissusref02_Regs.l0 k l0 1 0
theorem narcissusref02_Regs.mono_l : ∀ k, (∀ y0 y1 y2, LeO (narcissusref02_Regs.l0 k y0 y1 y2) (narcissusref02_Regs.l0 (k + 1) y0 y1 y2))
 | 0 => fun _ _ _ r h => by simp [narcissusref02_Regs.l0] at h
 | k + 1 => by
  have ih0 := narcissusref02_Regs.mono_l k
  ·intro y0 y1 y2
   unfold narcissusref02_Regs.l0
   repeat' first
   | (with_reducible exact ih0 _ _ _)
   | (with_reducible exact LeO.refl _)
   | (with_reducible exact LeO.none _)
   | (with_reducible refine LeO.ite ?_ ?_)
   | (with_reducible refine LeO.bind ?_ (fun _ => ?_))
   | exact ih0 _ _ _
   | exact LeO.none _
   | refine LeO.ite ?_ ?_
   | refine LeO.bind ?_ (fun _ => ?_)
set_option maxHeartbeats 8000000 in
set_option maxRecDepth 100000 in
theorem narcissusref02_Regs.calls (k : Nat) (A0 : Option Addr) (c0 : Nat) (l0 : List (S72)) (r : Int) (w : World) (hr0 : Kd.C k72 w A0 l0.length l0) (hc0 : l0.length ≤ c0) (h : narcissusref02_Regs.f k l0 = some r) :
  Calls Tryz.prog 35 #[.slice A0 l0.length c0] w fun e w' => e = .returned (.int .i64 r) ∧ Below w.heap.size w w' := by
 have HR0 := Aside0.mk hr0
 have HC0 := Aside0.mk hc0
 clear hr0 hc0
 have HB := Aside0.mk (Below.refl w.heap.size w)
 have H : (narcissusref02_Regs.l0 k l0 1 0) = some r := h
 clear h
 have H' := Aside0.mk H
 clear H
 go_enter Tryz.func35, Tryz.ntmps35
 go_wp2
 repeat (go_quiet (fail); try go_wp2)
 go_loopg [3, 4] k (fun kq v3 v4 w' => ∃ (x3_1 : Int) (x4_1 : Int), v3 = .int .i64 x3_1 ∧ v4 = .int .i64 x4_1 ∧ Aside0 (narcissusref02_Regs.l0 kq l0 x3_1 x4_1 = some r) ∧ Aside0 (kq ≤ k) ∧ Aside0 (Below w.heap.size w w'))
 case atStart => exact ⟨(1), (0), (by first | rfl | (simp; done) | (simp [*]; done)), (by first | rfl | (simp; done) | (simp [*]; done)), H', ⟨Nat.le_refl _⟩, ⟨by repeat (first | (with_reducible first | exact HB.out | apply below_alloc | apply pw_below_drewN | apply below_drew1) | exact HB.out)⟩⟩
 case round =>
  clear H'
  obtain ⟨x3_1, x4_1, rfl, rfl, HA, HK1, HB⟩ := hrel
  cases gk with
  | zero => exact absurd HA.out (by simp [narcissusref02_Regs.l0])
  | succ k1 =>
   have H := HA.out
   clear HA
   simp only [narcissusref02_Regs.l0] at H
   by_cases c2 : x4_1 < (l0.length : Int)
   ·rw [if_pos c2] at H
    have c2b0 : decide (x4_1 < (l0.length : Int)) = true := decide_eq_true c2
    clear c2
    by_cases c3 : 0 ≤ x4_1
    ·rw [if_pos c3] at H
     have c3b0 : decide (0 ≤ x4_1) = true := decide_eq_true c3
     clear c3
     obtain ⟨ji4, hji4⟩ : ∃ j_ : Int, (mx x3_1 (wrap64 (((rd_T72 l0 x4_1).f1) + 1))) = j_ := ⟨_, rfl⟩
     replace H : (if ((rd_T72 l0 x4_1).f0) = 5 then (narcissusref02_Regs.l0 k1 l0 ji4 (wrap64 (x4_1 + 1))) else (narcissusref02_Regs.l0 k1 l0 (mx (mx (ji4) (wrap64 (((rd_T72 l0 x4_1).f2) + 1))) (wrap64 (((rd_T72 l0 x4_1).f3) + 1))) (wrap64 (x4_1 + 1)))) = some r := by first | (rw [hji4] at H; exact H) | (simp only [hji4] at H ⊢; exact H)
     have hji4_ : (if x3_1 < (wrap64 (((rd_T72 l0 x4_1).f1) + 1)) then (wrap64 (((rd_T72 l0 x4_1).f1) + 1)) else x3_1) = ji4 := hji4
     by_cases c5 : ((rd_T72 l0 x4_1).f0) = 5
     ·rw [if_pos c5] at H
      have c5b0 : (((rd_T72 l0 x4_1).f0) == 5) = true := beq_iff_eq.mpr c5
      have c5b1 : (((rd_T72 l0 x4_1).f0) != 5) = false := bne_eq_false_iff_eq.mpr c5
      clear c5
      have H' := Aside0.mk H
      clear H
      have p1 : 0 ≤ (x4_1 : Int) := of_decide_eq_true (by first | (with_reducible assumption) | assumption)
      have q1 : x4_1 < (l0.length : Int) := of_decide_eq_true (by first | (with_reducible assumption) | assumption)
      obtain ⟨ad1, e1, hx1_0, hx1_1, hx1_2, hx1_3, hx1_4⟩ := at_T72 HR0.out x4_1 p1 q1
      cases e1
      replace hx1_0 := (HB.out.cell (World.block_lt_of_cell? w _ hx1_0)).trans hx1_0
      replace hx1_1 := (HB.out.cell (World.block_lt_of_cell? w _ hx1_1)).trans hx1_1
      replace hx1_2 := (HB.out.cell (World.block_lt_of_cell? w _ hx1_2)).trans hx1_2
      replace hx1_3 := (HB.out.cell (World.block_lt_of_cell? w _ hx1_3)).trans hx1_3
      replace hx1_4 := (HB.out.cell (World.block_lt_of_cell? w _ hx1_4)).trans hx1_4
      replace p1 := eq_true p1
      replace q1 := eq_true q1
      have p2 : 0 ≤ (x4_1 : Int) := of_decide_eq_true (by first | (with_reducible assumption) | assumption)
      have q2 : x4_1 < (l0.length : Int) := of_decide_eq_true (by first | (with_reducible assumption) | assumption)
      obtain ⟨ad2, e2, hx2_0, hx2_1, hx2_2, hx2_3, hx2_4⟩ := at_T72 HR0.out x4_1 p2 q2
      obtain rfl : ad1 = ad2 := (by injection e2)
      replace hx2_0 := (HB.out.cell (World.block_lt_of_cell? w _ hx2_0)).trans hx2_0
      replace hx2_1 := (HB.out.cell (World.block_lt_of_cell? w _ hx2_1)).trans hx2_1
      replace hx2_2 := (HB.out.cell (World.block_lt_of_cell? w _ hx2_2)).trans hx2_2
      replace hx2_3 := (HB.out.cell (World.block_lt_of_cell? w _ hx2_3)).trans hx2_3
      replace hx2_4 := (HB.out.cell (World.block_lt_of_cell? w _ hx2_4)).trans hx2_4
      replace p2 := eq_true p2
      replace q2 := eq_true q2
      go_wp2
      repeat (go_quiet (fail); try go_wp2)
      go_roundg k1
      case measure => have := HK1.out; omega
      case rel => exact ⟨(ji4), (wrap64 (x4_1 + 1)), (by first | rfl | (simp; done) | (simp only [← hji4] <;> (first | rfl | simp)) | (simp [*]; done)), (by first | rfl | (simp; done) | (simp [*]; done)), H', ⟨by have := HK1.out; omega⟩, ⟨by repeat (first | (with_reducible first | exact HB.out | apply below_alloc | apply pw_below_drewN | apply below_drew1) | exact HB.out)⟩⟩
     ·rw [if_neg c5] at H
      have c5b0 : (((rd_T72 l0 x4_1).f0) == 5) = false := beq_eq_false_iff_ne.mpr c5
      have c5b1 : (((rd_T72 l0 x4_1).f0) != 5) = true := bne_iff_ne.mpr c5
      obtain ⟨ji6, hji6⟩ : ∃ j_ : Int, (mx (ji4) (wrap64 (((rd_T72 l0 x4_1).f2) + 1))) = j_ := ⟨_, rfl⟩
      replace H : (narcissusref02_Regs.l0 k1 l0 (mx (ji6) (wrap64 (((rd_T72 l0 x4_1).f3) + 1))) (wrap64 (x4_1 + 1))) = some r := by first | (rw [hji6] at H; exact H) | (simp only [hji6] at H ⊢; exact H)
      have hji6_ : (if (ji4) < (wrap64 (((rd_T72 l0 x4_1).f2) + 1)) then (wrap64 (((rd_T72 l0 x4_1).f2) + 1)) else (ji4)) = ji6 := hji6
      obtain ⟨ji7, hji7⟩ : ∃ j_ : Int, (mx (ji6) (wrap64 (((rd_T72 l0 x4_1).f3) + 1))) = j_ := ⟨_, rfl⟩
      replace H : (narcissusref02_Regs.l0 k1 l0 ji7 (wrap64 (x4_1 + 1))) = some r := by first | (rw [hji7] at H; exact H) | (simp only [hji7] at H ⊢; exact H)
      have hji7_ : (if (ji6) < (wrap64 (((rd_T72 l0 x4_1).f3) + 1)) then (wrap64 (((rd_T72 l0 x4_1).f3) + 1)) else (ji6)) = ji7 := hji7
      have H' := Aside0.mk H
      clear H
      have p1 : 0 ≤ (x4_1 : Int) := of_decide_eq_true (by first | (with_reducible assumption) | assumption)
      have q1 : x4_1 < (l0.length : Int) := of_decide_eq_true (by first | (with_reducible assumption) | assumption)
      obtain ⟨ad1, e1, hx1_0, hx1_1, hx1_2, hx1_3, hx1_4⟩ := at_T72 HR0.out x4_1 p1 q1
      cases e1
      replace hx1_0 := (HB.out.cell (World.block_lt_of_cell? w _ hx1_0)).trans hx1_0
      replace hx1_1 := (HB.out.cell (World.block_lt_of_cell? w _ hx1_1)).trans hx1_1
      replace hx1_2 := (HB.out.cell (World.block_lt_of_cell? w _ hx1_2)).trans hx1_2
      replace hx1_3 := (HB.out.cell (World.block_lt_of_cell? w _ hx1_3)).trans hx1_3
      replace hx1_4 := (HB.out.cell (World.block_lt_of_cell? w _ hx1_4)).trans hx1_4
      replace p1 := eq_true p1
      replace q1 := eq_true q1
      have p2 : 0 ≤ (x4_1 : Int) := of_decide_eq_true (by first | (with_reducible assumption) | assumption)
      have q2 : x4_1 < (l0.length : Int) := of_decide_eq_true (by first | (with_reducible assumption) | assumption)
      obtain ⟨ad2, e2, hx2_0, hx2_1, hx2_2, hx2_3, hx2_4⟩ := at_T72 HR0.out x4_1 p2 q2
      obtain rfl : ad1 = ad2 := (by injection e2)
      replace hx2_0 := (HB.out.cell (World.block_lt_of_cell? w _ hx2_0)).trans hx2_0
      replace hx2_1 := (HB.out.cell (World.block_lt_of_cell? w _ hx2_1)).trans hx2_1
      replace hx2_2 := (HB.out.cell (World.block_lt_of_cell? w _ hx2_2)).trans hx2_2
      replace hx2_3 := (HB.out.cell (World.block_lt_of_cell? w _ hx2_3)).trans hx2_3
      replace hx2_4 := (HB.out.cell (World.block_lt_of_cell? w _ hx2_4)).trans hx2_4
      replace p2 := eq_true p2
      replace q2 := eq_true q2
      have p3 : 0 ≤ (x4_1 : Int) := of_decide_eq_true (by first | (with_reducible assumption) | assumption)
      have q3 : x4_1 < (l0.length : Int) := of_decide_eq_true (by first | (with_reducible assumption) | assumption)
      obtain ⟨ad3, e3, hx3_0, hx3_1, hx3_2, hx3_3, hx3_4⟩ := at_T72 HR0.out x4_1 p3 q3
      obtain rfl : ad1 = ad3 := (by injection e3)
      replace hx3_0 := (HB.out.cell (World.block_lt_of_cell? w _ hx3_0)).trans hx3_0
      replace hx3_1 := (HB.out.cell (World.block_lt_of_cell? w _ hx3_1)).trans hx3_1
      replace hx3_2 := (HB.out.cell (World.block_lt_of_cell? w _ hx3_2)).trans hx3_2
      replace hx3_3 := (HB.out.cell (World.block_lt_of_cell? w _ hx3_3)).trans hx3_3
      replace hx3_4 := (HB.out.cell (World.block_lt_of_cell? w _ hx3_4)).trans hx3_4
      replace p3 := eq_true p3
      replace q3 := eq_true q3
      have p4 : 0 ≤ (x4_1 : Int) := of_decide_eq_true (by first | (with_reducible assumption) | assumption)
      have q4 : x4_1 < (l0.length : Int) := of_decide_eq_true (by first | (with_reducible assumption) | assumption)
      obtain ⟨ad4, e4, hx4_0, hx4_1, hx4_2, hx4_3, hx4_4⟩ := at_T72 HR0.out x4_1 p4 q4
      obtain rfl : ad1 = ad4 := (by injection e4)
      replace hx4_0 := (HB.out.cell (World.block_lt_of_cell? w _ hx4_0)).trans hx4_0
      replace hx4_1 := (HB.out.cell (World.block_lt_of_cell? w _ hx4_1)).trans hx4_1
      replace hx4_2 := (HB.out.cell (World.block_lt_of_cell? w _ hx4_2)).trans hx4_2
      replace hx4_3 := (HB.out.cell (World.block_lt_of_cell? w _ hx4_3)).trans hx4_3
      replace hx4_4 := (HB.out.cell (World.block_lt_of_cell? w _ hx4_4)).trans hx4_4
      replace p4 := eq_true p4
      replace q4 := eq_true q4
      go_wp2
      repeat (go_quiet (fail); try go_wp2)
      go_roundg k1
      case measure => have := HK1.out; omega
      case rel => exact ⟨(ji7), (wrap64 (x4_1 + 1)), (by first | rfl | (simp; done) | (simp only [← hji7] <;> (first | rfl | simp)) | (simp [*]; done)), (by first | rfl | (simp; done) | (simp [*]; done)), H', ⟨by have := HK1.out; omega⟩, ⟨by repeat (first | (with_reducible first | exact HB.out | apply below_alloc | apply pw_below_drewN | apply below_drew1) | exact HB.out)⟩⟩
    ·rw [if_neg c3] at H
     exact absurd H (by simp)
   ·rw [if_neg c2] at H
    have c2b0 : decide (x4_1 < (l0.length : Int)) = false := decide_eq_false c2
    clear c2
    obtain rfl := Option.some.inj H
    go_wp2
    repeat (go_quiet (fail); try go_wp2)
    go_ret
    exact ⟨by first | rfl | (simp [errW_none, errW_some] <;> rfl) | (simp [*, errW_none, errW_some] <;> rfl), by repeat (first | (with_reducible first | exact HB.out | apply below_alloc | apply pw_below_drewN | apply below_drew1) | exact HB.out)⟩
end Go.Proofs.YtocoamgbpoommaaGreatDoor.C
end
section
namespace Go.Proofs.YtocoamgbpoommaaGreatDoor.Plain
open Go.Proofs.YtocoamgbpoommaaGreatDoor.C
open Go.RowKit Go.Proofs.YtocoamgbpoommaaGreatDoorW.PrintWords Go.Proofs.YtocoamgbpoommaaGreatDoorW.PrintLast Go.Proofs.YtocoamgbpoommaaGreatDoorW.PrintMore
set_option linter.unusedVariables false
set_option linter.unusedSimpArgs false
theorem mx_is (a b : Int) : mx a b = if a < b then b else a := rfl
theorem mx_plus (a b : Int) : mx (a + 1) (b + 1) = mx a b + 1 := by
  rw [mx_is, mx_is]
  split
  · rw [if_pos (by omega)]
  · rw [if_neg (by omega)]
theorem mx_both {a b m : Int} (ha : a < m) (hb : b < m) : a ≤ mx a b ∧ b ≤ mx a b ∧ mx a b < m := by
  rw [mx_is]; split <;> omega
def Under (M : Int) (x : Ins) : Prop := x.f1 ≤ M ∧ (x.f0 ≠ 5 → x.f2 ≤ M ∧ x.f3 ≤ M)
theorem rightReg {x : Ins} {i n : Int} (h : Right x i n) : Reg x.f1 ∧ (x.f0 ≠ 5 → Reg x.f2 ∧ Reg x.f3) := by
  have z : ∀ {a : Int}, a = 0 → Reg a := fun e => by rw [e]; exact ⟨by decide, by decide⟩
  unfold Right at h
  rcases h with h | h | h | h
  · exact ⟨h.2.1, fun _ => ⟨z h.2.2.1, z h.2.2.2.1⟩⟩
  · exact ⟨h.2.1, fun _ => ⟨h.2.2.1, z h.2.2.2.1⟩⟩
  · exact ⟨h.2.1, fun _ => ⟨h.2.2.1, h.2.2.2.1⟩⟩
  · exact ⟨h.2.1, fun h5 => absurd h.1 h5⟩
theorem top_l (p : List Ins) (hp : OKP p) (d : Nat) : ∀ (k i : Nat) (m : Int), p.length - i = d → i ≤ p.length → d < k → 0 ≤ m → m < 32 →
    ∃ M : Int, m ≤ M ∧ M < 32 ∧ (∀ x ∈ p.drop i, Under M x) ∧ code_Regs.l0 k m p (p.length : Int) (i : Int) = some (M + 1, 0) ∧ narcissusref02_Regs.l0 k p (m + 1) (i : Int) = some (M + 1) := by
  have h4 := hp.1
  induction d with
  | zero =>
    intro k i m hd hi hk h0 h1
    obtain ⟨k, rfl⟩ : ∃ m, k = m + 1 := ⟨k - 1, by omega⟩
    refine ⟨m, Int.le_refl _, h1, ?_, ?_, ?_⟩
    · rw [List.drop_eq_nil_of_le (by omega)]; intro x hx; cases hx
    · rw [code_Regs.l0, if_neg (by omega), wrap_small (by omega) (by omega)]
    · rw [narcissusref02_Regs.l0, if_neg (by omega)]
  | succ d ih =>
    intro k i m hd hi hk h0 h1
    obtain ⟨k, rfl⟩ : ∃ m, k = m + 1 := ⟨k - 1, by omega⟩
    have hlt : i < p.length := by omega
    have hr := hp.2.2 i hlt
    have hdrop : p.drop i = p[i] :: p.drop (i + 1) := List.drop_eq_getElem_cons hlt
    have hrd : rd_T72 p (i : Int) = p[i] := rd_ins p i hlt
    have w1 : wrap64 ((i : Int) + 1) = ((i + 1 : Nat) : Int) := wrap_small (by omega) (by omega)
    rw [code_Regs.l0, if_pos (by omega), if_pos (by omega), if_pos (by omega), w1]
    rw [narcissusref02_Regs.l0, hdrop]
    rw [hrd] at hr ⊢
    clear hrd hdrop
    generalize p[i] = x at hr ⊢
    have hb := rightReg hr
    have b1 := mx_both h1 hb.1.2
    have v1 : wrap64 (x.f1 + 1) = x.f1 + 1 := wrap_small (by have := hb.1.1; omega) (by have := hb.1.2; omega)
    have next : ∀ m', 0 ≤ m' → m' < 32 → ∃ M : Int, m' ≤ M ∧ M < 32 ∧ (∀ x ∈ p.drop (i + 1), Under M x) ∧ code_Regs.l0 k m' p (p.length : Int) ((i + 1 : Nat) : Int) = some (M + 1, 0) ∧ narcissusref02_Regs.l0 k p (m' + 1) ((i + 1 : Nat) : Int) = some (M + 1) :=
      fun m' hm0 hm1 => ih k (i + 1) m' (by omega) (by omega) (by omega) hm0 hm1
    by_cases h5 : x.f0 = 5
    · rw [if_pos h5, if_pos (by omega), if_pos (by omega), if_pos h5, v1, w1, mx_plus]
      obtain ⟨M, a1, a2, a3, a4, a5⟩ := next _ (by omega) b1.2.2
      refine ⟨M, by omega, a2, fun y hy => ?_, a4, a5⟩
      rcases List.mem_cons.1 hy with rfl | hy
      · exact ⟨by omega, fun h => absurd h5 h⟩
      · exact a3 y hy
    · have hb2 := hb.2 h5
      have v2 : wrap64 (x.f2 + 1) = x.f2 + 1 := wrap_small (by have := hb2.1.1; omega) (by have := hb2.1.2; omega)
      have v3 : wrap64 (x.f3 + 1) = x.f3 + 1 := wrap_small (by have := hb2.2.1; omega) (by have := hb2.2.2; omega)
      have b2 := mx_both b1.2.2 hb2.1.2
      have b3 := mx_both b2.2.2 hb2.2.2
      rw [if_neg h5, if_pos (by omega), if_pos (by omega), if_neg h5, v1, v2, v3, w1, mx_plus, mx_plus, mx_plus]
      obtain ⟨M, a1, a2, a3, a4, a5⟩ := next _ (by omega) b3.2.2
      refine ⟨M, by omega, a2, fun y hy => ?_, a4, a5⟩
      rcases List.mem_cons.1 hy with rfl | hy
      · exact ⟨by omega, fun _ => ⟨by omega, by omega⟩⟩
      · exact a3 y hy
theorem top_yes {p : List Ins} (hp : OKP p) : ∃ w : Nat, 1 ≤ w ∧ w ≤ 32 ∧ (∀ x ∈ p, Under ((w : Int) - 1) x) ∧ ∀ k, 4010 ≤ k → code_Regs.f k p = some ((w : Int), 0) ∧ narcissusref02_Regs.f k p = some (w : Int) := by
  have h4 := hp.1
  obtain ⟨M, a1, a2, a3, _, a5⟩ := top_l p hp p.length 4010 0 0 rfl (Nat.zero_le _) (by omega) (by decide) (by decide)
  obtain ⟨n, rfl⟩ := Int.eq_ofNat_of_zero_le a1
  refine ⟨n + 1, by omega, by omega, fun x hx => ?_, fun k hk => ?_⟩
  · have := a3 x hx
    rwa [show ((n + 1 : Nat) : Int) - 1 = (n : Int) from by omega]
  · obtain ⟨M, b1, b2, b3, b4, b5⟩ := top_l p hp p.length k 0 0 rfl (Nat.zero_le _) (by omega) (by decide) (by decide)
    have hM : M = (n : Int) := by
      have h1 : LeO (narcissusref02_Regs.l0 4010 p (0 + 1) ((0 : Nat) : Int)) (narcissusref02_Regs.l0 k p (0 + 1) ((0 : Nat) : Int)) := by
        obtain ⟨j, rfl⟩ : ∃ j, k = 4010 + j := ⟨k - 4010, by omega⟩
        clear b4 b5 hk
        induction j with
        | zero => exact LeO.refl _
        | succ j ih => exact fun r h => narcissusref02_Regs.mono_l _ _ _ _ r (ih r h)
      have h2 := h1 _ a5
      rw [b5] at h2
      have h3 := Option.some.inj h2
      have h4 : M + 1 = (n : Int) + 1 := h3
      omega
    subst hM
    refine ⟨?_, b5⟩
    unfold code_Regs.f
    rw [validp_yes hk hp, Option.bind_some, if_pos rfl]
    exact b4
end Go.Proofs.YtocoamgbpoommaaGreatDoor.Plain
end
section
namespace Go.Proofs.YtocoamgbpoommaaGreatDoor.C
open Go.RowKit Go.Proofs.YtocoamgbpoommaaGreatDoorW.PrintWords Go.Proofs.YtocoamgbpoommaaGreatDoorW.PrintLast Go.Proofs.YtocoamgbpoommaaGreatDoorW.PrintMore
attribute [local go_sem] max2_int min2_int max_two min_two max_three min_three max_four min_four
set_option linter.unusedVariables false
set_option linter.unusedSimpArgs false
def know_join.l0 : Nat → List (S72) → List (List (S72)) → Int → Int → Option ((List (S72)) × Bool)
 | 0, _, _, _, _ => none
 | k + 1, x4, x7, x8, x9 => if x9 < x8 then (if 0 ≤ x9 then (if x9 < (x7.length : Int) then (if x4.length + (rd_L3 x7 x9).length < 2932031007402 then (know_join.l0 k (x4 ++ (rd_L3 x7 x9)) x7 x8 (wrap64 (x9 + 1))) else (none)) else (none)) else (none)) else ((code_Valid.f k x4).bind fun t5 => (some (x4, t5)))
def know_join.f (k : Nat) (l0 : List (List (S72))) : Option ((List (S72)) × Bool) := know_join.l0 k ([] : List (S72)) l0 (l0.length : Int) 0
set_option maxHeartbeats 8000000 in
set_option maxRecDepth 100000 in
theorem know_join.calls (k : Nat) (A0 : Option Addr) (c0 : Nat) (l0 : List (List (S72))) (r1 : List (S72)) (r2 : Bool) (w : World) (hr0 : Kd.C (Kd.slice 72 k72) w A0 l0.length l0) (hc0 : l0.length ≤ c0) (h : know_join.f k l0 = some (r1, r2)) :
  Calls Tryz.prog 70 #[.slice A0 l0.length c0] w fun e w' => ∃ v0_ : Value, e = .returned (.tuple #[v0_, .bool r2]) ∧ Kd.R k72 72 w' w.heap.size (fun _ => True) v0_ r1 ∧ Below w.heap.size w w' := by
 have HR0 := Aside0.mk hr0
 have HC0 := Aside0.mk hc0
 clear hr0 hc0
 have HB := Aside0.mk (Below.refl w.heap.size w)
 have H : (know_join.l0 k ([] : List (S72)) l0 (l0.length : Int) 0) = some (r1, r2) := h
 clear h
 have H' := Aside0.mk H
 clear H
 go_enter Tryz.func70, Tryz.ntmps70
 go_wp2
 go_loopg [4, 9] k (fun kq v4 v9 w' => ∃ (x4_1 : List (S72)) (x9_1 : Int), v9 = .int .i64 x9_1 ∧ Aside0 (know_join.l0 kq x4_1 l0 (l0.length : Int) x9_1 = some (r1, r2)) ∧ Aside0 (kq ≤ k) ∧ Aside0 (Kd.R k72 72 w' w.heap.size (fun _ => True) v4 x4_1) ∧ Aside0 (Below w.heap.size w w'))
 case atStart => exact ⟨(([] : List (S72))), (0), (by first | rfl | (simp; done) | (simp [*]; done)), H', ⟨Nat.le_refl _⟩, ⟨by first | exact Kd.R_nil _ _ _ _ _ | exact Kd.N_nil _ _ _ _ _ | exact Kd.V_nil _ _ _ _ _ | exact Kd.Q_nil _ _ _ _ _ | exact Kd.S_nil _ _ _ _ _⟩, ⟨by repeat (first | (with_reducible first | exact HB.out | apply below_alloc | apply pw_below_drewN | apply below_drew1) | exact HB.out)⟩⟩
 case round =>
  clear H'
  obtain ⟨x4_1, x9_1, rfl, HA, HK1, HO_4, HB⟩ := hrel
  cases gk with
  | zero => exact absurd HA.out (by simp [know_join.l0])
  | succ k1 =>
   have H := HA.out
   clear HA
   simp only [know_join.l0] at H
   by_cases c2 : x9_1 < (l0.length : Int)
   ·rw [if_pos c2] at H
    have c2b0 : decide (x9_1 < (l0.length : Int)) = true := decide_eq_true c2
    clear c2
    by_cases c3 : 0 ≤ x9_1
    ·rw [if_pos c3] at H
     have c3b0 : decide (0 ≤ x9_1) = true := decide_eq_true c3
     clear c3
     by_cases c4 : x9_1 < (l0.length : Int)
     ·rw [if_pos c4] at H
      have c4b0 : decide (x9_1 < (l0.length : Int)) = true := decide_eq_true c4
      clear c4
      by_cases c5 : x4_1.length + (rd_L3 l0 x9_1).length < 2932031007402
      ·rw [if_pos c5] at H
       have LMc5 := Aside0.mk c5
       clear c5
       obtain ⟨y2, hy2⟩ : ∃ y_ : List (S72), y_ = (x4_1 ++ (rd_L3 l0 x9_1)) := ⟨_, rfl⟩
       replace H : (know_join.l0 k1 y2 l0 (l0.length : Int) (wrap64 (x9_1 + 1))) = some (r1, r2) := by first | (rw [hy2]; with_reducible exact H) | (have H2_ := (Option.bind_some _ _).symm.trans H; rw [hy2]; with_reducible exact H2_) | (have H2_ := (Option.bind_some _ _).symm.trans H; with_reducible exact H2_) | with_reducible exact H | (rw [hy2]; exact H) | exact H
       have Ny2 := Aside0.mk hy2
       clear hy2
       have H' := Aside0.mk H
       clear H
       have p1 : 0 ≤ (x9_1 : Int) := of_decide_eq_true (by first | (with_reducible assumption) | assumption)
       have q1 : x9_1 < (l0.length : Int) := of_decide_eq_true (by first | (with_reducible assumption) | assumption)
       obtain ⟨ad1, A1_0, c1_0, e1, hx1_0, hl1_0, hi1_0⟩ := at_L3 HR0.out x9_1 p1 q1
       cases e1
       replace hx1_0 := (HB.out.cell (World.block_lt_of_cell? w _ hx1_0)).trans hx1_0
       have HR1_0 := Aside0.mk hi1_0
       have HC1_0 := Aside0.mk hl1_0
       clear hi1_0 hl1_0
       replace p1 := eq_true p1
       replace q1 := eq_true q1
       go_wp2_with (first | ((with_reducible refine gate_builtin (b := .append) (xs := #[.tmp 13, .tmp 14]) rfl ?_); at_builtin; refine Kd.R_append_rows k72 (w0 := w) w.heap.size rfl (.tmp 13) (.tmp 14) 47 72 (.agg #[(.int .i64 0), (.int .i64 0), (.int .i64 0), (.int .i64 0), (.string ⟨#[]⟩)]) 48 rfl Tryz.underlying47 info72 rfl (by decide) (by omega) u4 x4_1 (rd_L3 l0 x9_1) _ _ _ (fun _ => True) (fun _ => False) rfl rfl ?aO ?aR (fun _ _ h => h) (fun _ h => h.elim) ?aF ?aB ?aS ?aL ?_; (case aR => repeat (first | exact (Kd.C_below HR1_0.out HB.out) | (with_reducible refine Kd.C_alloc ?_ _) | (with_reducible refine Kd.C_drewN ?_ _) | (with_reducible refine Kd.C_drew ?_))); (case aB => exact (by repeat (first | (with_reducible first | exact HB.out | apply below_alloc | apply pw_below_drewN | apply below_drew1) | exact HB.out))); (case aF => exact (fun _ _ => trivial)); (case aO => exact (by (with_reducible repeat (first | apply Kd.R_alloc | apply Kd.R_drewN | apply Kd.R_drew)); exact HO_4.out)); (case aS => exact (below_size (by repeat (first | (with_reducible first | exact HB.out | apply below_alloc | apply pw_below_drewN | apply below_drew1) | exact HB.out)))); (case aL => have := LMc5.out; first | omega | (simp only [lit_size, List.size_toArray, List.length_cons, List.length_nil]; omega)); intro v3 w6 ho hb hg hat; rw [← Ny2.out] at ho; have n0_ := Aside0.mk (hb); have n1_ := Aside0.mk (ho); clear HB; clear HO_4; have HB := n0_; have HO4 := n1_; clear n0_ n1_; clear ho hb hg hat))
       go_roundg k1
       case measure => have := HK1.out; omega
       case rel => exact ⟨(y2), (wrap64 (x9_1 + 1)), (by first | rfl | (simp; done) | (simp [*]; done)), H', ⟨by have := HK1.out; omega⟩, ⟨by (with_reducible repeat (first | apply Kd.R_alloc | apply Kd.R_drewN | apply Kd.R_drew)); exact HO4.out⟩, ⟨by repeat (first | (with_reducible first | exact HB.out | apply below_alloc | apply pw_below_drewN | apply below_drew1) | exact HB.out)⟩⟩
      ·rw [if_neg c5] at H
       exact absurd H (by simp)
     ·rw [if_neg c4] at H
      exact absurd H (by simp)
    ·rw [if_neg c3] at H
     exact absurd H (by simp)
   ·rw [if_neg c2] at H
    have c2b0 : decide (x9_1 < (l0.length : Int)) = false := decide_eq_false c2
    clear c2
    replace H := Option.bind_eq_some_iff.mp H
    obtain ⟨t5, A70, H⟩ := H
    replace H : (some (x4_1, t5)) = some (r1, r2) := H
    have A7 := Aside0.mk A70
    clear A70
    simp only [Option.some.injEq, Prod.mk.injEq] at H
    obtain ⟨rfl, rfl⟩ := H
    obtain ⟨Ao8, co8, eo8⟩ := Kd.R_slice HO_4.out
    subst eo8
    go_wp2_with (first | ((with_reducible refine gate_callee (f := 40) rfl ?_); refine goesL_ (some 19) rfl rfl Tryz.func40 (by kernel_rfl) rfl #[.slice Ao8 x4_1.length co8] rfl (by (try simp only [List.map_toArray, List.map_cons, List.map_nil]); first | done | rfl | (simp only [List.length_drop, List.length_take]; rfl)) ?_; (with_reducible refine (code_Valid.calls k1 _ _ x4_1 t5 _ ?side1 ?side2 A7.out).mono ?_); (case side1 => repeat (first | exact (Kd.R_reads' HO_4.out).2.2 | (with_reducible refine Kd.C_alloc ?_ _) | (with_reducible refine Kd.C_drewN ?_ _) | (with_reducible refine Kd.C_drew ?_))); (case side2 => exact (Kd.R_reads' HO_4.out).2.1); rintro e w9 ⟨rfl, hb⟩; refine ⟨_, rfl, ?_⟩; have n0_ := Aside0.mk (Kd.R_below (by (with_reducible repeat (first | apply Kd.R_alloc | apply Kd.R_drewN | apply Kd.R_drew)); exact HO_4.out) hb); have n1_ := Aside0.mk (below_step (by repeat (first | (with_reducible first | exact HB.out | apply below_alloc | apply pw_below_drewN | apply below_drew1) | exact HB.out)) hb); clear HO_4; clear HB; have HO_4 := n0_; have HB := n1_; clear n0_ n1_; (try clear hb); (try clear hb2); (try clear hk); (try clear hi)))
    go_ret2
    exact ⟨_, by first | rfl | (simp [errW_none, errW_some] <;> rfl) | (simp [*, errW_none, errW_some] <;> rfl), by (with_reducible repeat (first | apply Kd.R_alloc | apply Kd.R_drewN | apply Kd.R_drew)); exact HO_4.out, by repeat (first | (with_reducible first | exact HB.out | apply below_alloc | apply pw_below_drewN | apply below_drew1) | exact HB.out)⟩
end Go.Proofs.YtocoamgbpoommaaGreatDoor.C
end
section
namespace Go.Proofs.YtocoamgbpoommaaGreatDoor.C
open Go.RowKit Go.Proofs.YtocoamgbpoommaaGreatDoorW.PrintWords Go.Proofs.YtocoamgbpoommaaGreatDoorW.PrintLast Go.Proofs.YtocoamgbpoommaaGreatDoorW.PrintMore
attribute [local go_sem] max2_int min2_int max_two min_two max_three min_three max_four min_four
set_option linter.unusedVariables false
set_option linter.unusedSimpArgs false
def know_Clear.l0 : Nat → Int → List (S72) → Int → Option ((List (S72)))
 | 0, _, _, _ => none
 | k + 1, x1, x5, x6 => if x6 ≤ x1 then (if x5.length < 2932031007402 then (know_Clear.l0 k x1 (x5 ++ [(⟨0, x6, 0, 0, (⟨#[48]⟩ : ByteArray)⟩ : S72)]) (wrap64 (x6 + 1))) else (none)) else (some x5)
def know_Clear.f (k : Nat) (a0 : Int) (a1 : Int) : Option ((List (S72))) := know_Clear.l0 k a1 ([] : List (S72)) a0
set_option maxHeartbeats 8000000 in
set_option maxRecDepth 100000 in
theorem know_Clear.calls (k : Nat) (a0 : Int) (a1 : Int) (r : List (S72)) (w : World) (h : know_Clear.f k a0 a1 = some r) :
  Calls Tryz.prog 87 #[.int .i64 a0, .int .i64 a1] w fun e w' => ∃ v0_ : Value, e = .returned (v0_) ∧ Kd.R k72 72 w' w.heap.size (fun _ => True) v0_ r ∧ Below w.heap.size w w' := by
 have hu72 := Tryz.underlying72
 have HB := Aside0.mk (Below.refl w.heap.size w)
 have H : (know_Clear.l0 k a1 ([] : List (S72)) a0) = some r := h
 clear h
 have H' := Aside0.mk H
 clear H
 go_enter Tryz.func87, Tryz.ntmps87
 go_wp2
 go_loopg [5, 6] k (fun kq v5 v6 w' => ∃ (x5_1 : List (S72)) (x6_1 : Int), v6 = .int .i64 x6_1 ∧ Aside0 (know_Clear.l0 kq a1 x5_1 x6_1 = some r) ∧ Aside0 (kq ≤ k) ∧ Aside0 (Kd.R k72 72 w' w.heap.size (fun _ => True) v5 x5_1) ∧ Aside0 (Below w.heap.size w w'))
 case atStart => exact ⟨(([] : List (S72))), (a0), (by first | rfl | (simp; done) | (simp [*]; done)), H', ⟨Nat.le_refl _⟩, ⟨by first | exact Kd.R_nil _ _ _ _ _ | exact Kd.N_nil _ _ _ _ _ | exact Kd.V_nil _ _ _ _ _ | exact Kd.Q_nil _ _ _ _ _ | exact Kd.S_nil _ _ _ _ _⟩, ⟨by repeat (first | (with_reducible first | exact HB.out | apply below_alloc | apply pw_below_drewN | apply below_drew1) | exact HB.out)⟩⟩
 case round =>
  clear H'
  try clear p2
  obtain ⟨x5_1, x6_1, rfl, HA, HK1, HO_5, HB⟩ := hrel
  cases gk with
  | zero => exact absurd HA.out (by simp [know_Clear.l0])
  | succ k1 =>
   have H := HA.out
   clear HA
   simp only [know_Clear.l0] at H
   by_cases c3 : x6_1 ≤ a1
   ·rw [if_pos c3] at H
    have c3b0 : decide (x6_1 ≤ a1) = true := decide_eq_true c3
    clear c3
    by_cases c4 : x5_1.length < 2932031007402
    ·rw [if_pos c4] at H
     have LMc4 := Aside0.mk c4
     clear c4
     obtain ⟨y1, hy1⟩ : ∃ y_ : List (S72), y_ = (x5_1 ++ [(⟨0, x6_1, 0, 0, (⟨#[48]⟩ : ByteArray)⟩ : S72)]) := ⟨_, rfl⟩
     replace H : (know_Clear.l0 k1 a1 y1 (wrap64 (x6_1 + 1))) = some r := by first | (rw [hy1]; with_reducible exact H) | (have H2_ := (Option.bind_some _ _).symm.trans H; rw [hy1]; with_reducible exact H2_) | (have H2_ := (Option.bind_some _ _).symm.trans H; with_reducible exact H2_) | with_reducible exact H | (rw [hy1]; exact H) | exact H
     have Ny1 := Aside0.mk hy1
     clear hy1
     have H' := Aside0.mk H
     clear H
     go_wp2_with (first | ((with_reducible refine gate_builtin (b := .append) (xs := #[.tmp 13, .tmp 16]) rfl ?_); at_builtin; refine Kd.R_append k72 (w0 := w) w.heap.size rfl (.tmp 13) (.tmp 16) 47 72 (.agg #[(.int .i64 0), (.int .i64 0), (.int .i64 0), (.int .i64 0), (.string ⟨#[]⟩)]) 48 rfl Tryz.underlying47 info72 rfl (by decide) (by omega) u5 x5_1 (⟨0, x6_1, 0, 0, (⟨#[48]⟩ : ByteArray)⟩ : S72) [.int .i64 0, .int .i64 x6_1, .int .i64 0, .int .i64 0, .string (⟨#[48]⟩ : ByteArray)] (fun _ => True) (fun _ => False) rfl rfl ?aP (fun _ hk => hk.elim) ?aF ?aO ?aB ?aS ?aL ?_; (case aP => exact k72_mkM _ _ _ (⟨0, x6_1, 0, 0, (⟨#[48]⟩ : ByteArray)⟩ : S72)); (case aB => exact (by repeat (first | (with_reducible first | exact HB.out | apply below_alloc | apply pw_below_drewN | apply below_drew1) | exact HB.out))); (case aF => exact (fun _ _ => trivial)); (case aO => exact (by (with_reducible repeat (first | apply Kd.R_alloc | apply Kd.R_drewN | apply Kd.R_drew)); exact HO_5.out)); (case aS => exact (below_size (by repeat (first | (with_reducible first | exact HB.out | apply below_alloc | apply pw_below_drewN | apply below_drew1) | exact HB.out)))); (case aL => have := LMc4.out; first | omega | (simp only [lit_size, List.size_toArray, List.length_cons, List.length_nil]; omega)); intro v2 w5 ho hb hg hat; rw [← Ny1.out] at ho; have n0_ := Aside0.mk (hb); have n1_ := Aside0.mk (ho); clear HB; clear HO_5; have HB := n0_; have HO3 := n1_; clear n0_ n1_; clear ho hb hg hat))
     go_roundg k1
     case measure => have := HK1.out; omega
     case rel => exact ⟨(y1), (wrap64 (x6_1 + 1)), (by first | rfl | (simp; done) | (simp [*]; done)), H', ⟨by have := HK1.out; omega⟩, ⟨by (with_reducible repeat (first | apply Kd.R_alloc | apply Kd.R_drewN | apply Kd.R_drew)); exact HO3.out⟩, ⟨by repeat (first | (with_reducible first | exact HB.out | apply below_alloc | apply pw_below_drewN | apply below_drew1) | exact HB.out)⟩⟩
    ·rw [if_neg c4] at H
     exact absurd H (by simp)
   ·rw [if_neg c3] at H
    have c3b0 : decide (x6_1 ≤ a1) = false := decide_eq_false c3
    clear c3
    obtain rfl := Option.some.inj H
    go_wp2
    go_ret
    exact ⟨_, by first | rfl | (simp [errW_none, errW_some] <;> rfl) | (simp [*, errW_none, errW_some] <;> rfl), by (with_reducible repeat (first | apply Kd.R_alloc | apply Kd.R_drewN | apply Kd.R_drew)); exact HO_5.out, by repeat (first | (with_reducible first | exact HB.out | apply below_alloc | apply pw_below_drewN | apply below_drew1) | exact HB.out)⟩
end Go.Proofs.YtocoamgbpoommaaGreatDoor.C
end
