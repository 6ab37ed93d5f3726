/- Texts of this claim, together: what the functions return, and what they say in plain words. -/
import Derived.Test.YtocoamgbpoommaaGreatDoorUB
import Derived.Test.YtocoamgbpoommaaGreatDoorUQ
section
namespace Go.Proofs.YtocoamgbpoommaaGreatDoor.C
open Go.RowKit Go.Proofs.YtocoamgbpoommaaGreatDoorW.PrintWords Go.Proofs.YtocoamgbpoommaaGreatDoorW.PrintLast Go.Proofs.YtocoamgbpoommaaGreatDoorW.PrintMore
attribute [local go_sem] max2_int min2_int max_two min_two max_three min_three max_four min_four
set_option linter.unusedVariables false
set_option linter.unusedSimpArgs false
mutual
def narcissusref02_Right.j0 : Nat → Int → Int → Bool → Int → Int → Int → Int → ByteArray → Option (Bool)
 | 0, _, _, _, _, _, _, _, _ => none
 | k + 1, x1, x2, x30, x2000, x2001, x2002, x2003, x2004 => if x30 = true then (some false) else (if x2000 = 0 then (if x2002 = 0 then ((narcissusref01_Valid.f k x2004).bind fun t3 => (some t3)) else (some false)) else (if x2000 = 1 then (narcissusref02_Right.j1 k x1 x2 x2000 (x2000 == 1) x2000 x2001 x2002 x2003 x2004) else (if x2000 = 3 then (narcissusref02_Right.j1 k x1 x2 x2000 (x2000 == 3) x2000 x2001 x2002 x2003 x2004) else (narcissusref02_Right.j1 k x1 x2 x2000 (x2000 == 4) x2000 x2001 x2002 x2003 x2004))))
def narcissusref02_Right.j1 : Nat → Int → Int → Int → Bool → Int → Int → Int → Int → ByteArray → Option (Bool)
 | 0, _, _, _, _, _, _, _, _, _ => none
 | k + 1, x1, x2, x32, x43, x2000, x2001, x2002, x2003, x2004 => if x43 = true then ((narcissusref02_Register.f x2002).bind fun t4 => (some t4)) else (if x32 = 2 then ((narcissusref02_Register.f x2002).bind fun t5 => (if t5 = true then ((narcissusref02_Register.f x2003).bind fun t6 => (some t6)) else (some false))) else (if x32 = 5 then (if x2002 ≥ (wrap64 (-x1)) then (some (decide (x2002 ≤ (wrap64 (x2 - x1))))) else (some false)) else (some false)))
end
def narcissusref02_Right.f (k : Nat) (a0_0 : Int) (a0_1 : Int) (a0_2 : Int) (a0_3 : Int) (a0_4 : ByteArray) (a1 : Int) (a2 : Int) : Option (Bool) := (narcissusref02_Register.f a0_1).bind fun t2 => (if t2 = true then (if a0_0 = 0 then (if a0_0 = 2 then (narcissusref02_Right.j0 k a1 a2 false a0_0 a0_1 a0_2 a0_3 a0_4) else (narcissusref02_Right.j0 k a1 a2 (a0_3 != 0) a0_0 a0_1 a0_2 a0_3 a0_4)) else (if a0_4.toList = ([] : List UInt8) then (if a0_0 = 2 then (narcissusref02_Right.j0 k a1 a2 false a0_0 a0_1 a0_2 a0_3 a0_4) else (narcissusref02_Right.j0 k a1 a2 (a0_3 != 0) a0_0 a0_1 a0_2 a0_3 a0_4)) else (narcissusref02_Right.j0 k a1 a2 true a0_0 a0_1 a0_2 a0_3 a0_4))) else (narcissusref02_Right.j0 k a1 a2 true a0_0 a0_1 a0_2 a0_3 a0_4))
set_option maxHeartbeats 8000000 in
set_option maxRecDepth 100000 in
theorem narcissusref02_Right.calls (k : Nat) (a0_0 : Int) (a0_1 : Int) (a0_2 : Int) (a0_3 : Int) (a0_4 : ByteArray) (a1 : Int) (a2 : Int) (r : Bool) (w : World) (h : narcissusref02_Right.f k a0_0 a0_1 a0_2 a0_3 a0_4 a1 a2 = some r) :
  Calls Tryz.prog 48 #[.agg #[.int .i64 a0_0, .int .i64 a0_1, .int .i64 a0_2, .int .i64 a0_3, .string a0_4], .int .i64 a1, .int .i64 a2] w fun e w' => e = .returned (.bool r) ∧ Below w.heap.size w w' := by
 have hu72 := Tryz.underlying72
 have HB := Aside0.mk (Below.refl w.heap.size w)
 have H : ((narcissusref02_Register.f a0_1).bind fun t2 => (if t2 = true then (if a0_0 = 0 then (if a0_0 = 2 then (narcissusref02_Right.j0 k a1 a2 false a0_0 a0_1 a0_2 a0_3 a0_4) else (narcissusref02_Right.j0 k a1 a2 (a0_3 != 0) a0_0 a0_1 a0_2 a0_3 a0_4)) else (if a0_4.toList = ([] : List UInt8) then (if a0_0 = 2 then (narcissusref02_Right.j0 k a1 a2 false a0_0 a0_1 a0_2 a0_3 a0_4) else (narcissusref02_Right.j0 k a1 a2 (a0_3 != 0) a0_0 a0_1 a0_2 a0_3 a0_4)) else (narcissusref02_Right.j0 k a1 a2 true a0_0 a0_1 a0_2 a0_3 a0_4))) else (narcissusref02_Right.j0 k a1 a2 true a0_0 a0_1 a0_2 a0_3 a0_4))) = some r := h
 clear h
 have HC4 := Aside0.mk H
 clear H
 go_enter Tryz.func48, Tryz.ntmps48
 go_upto_region 1 with (first | ((with_reducible refine gate_dst (N := 3) rfl ?_); refine box_event ?hg (N := 3) ?hd (cs := #[.int .i64 a0_0, .int .i64 a0_1, .int .i64 a0_2, .int .i64 a0_3, .string a0_4]) (t := 72) ?hr ?_; (case hd => rfl); (case hg => rfl); (case hr => first | (go_simp; done) | (go_simp; rfl)); intro gb1 hg w5 hbox hb; have n0_ := Aside0.mk (below_step (by repeat (first | (with_reducible first | exact HB.out | apply below_alloc | apply pw_below_drewN | apply below_drew1) | exact HB.out)) hb); have n1_ := Aside0.mk (hbox); have n2_ := Aside0.mk ((by rw [hg]; exact (below_size (by repeat (first | (with_reducible first | exact HB.out | apply below_alloc | apply pw_below_drewN | apply below_drew1) | exact HB.out))) : w.heap.size ≤ gb1)); have n3_ := Aside0.mk ((by rw [hg]; exact (below_size (by repeat (first | (with_reducible first | exact HB.out | apply below_alloc | apply pw_below_drewN | apply below_drew1) | exact HB.out))) : w.heap.size ≤ gb1)); clear HB; have HB := n0_; have BK1 := n1_; have GW1 := n2_; have GE1 := n3_; clear n0_ n1_ n2_ n3_; clear hb hbox hg))
 (try simp only [Act.put, List.setIfInBounds_toArray, List.set_cons_zero, List.set_cons_succ])
 go_cut [30] (fun v30 wc => ∃ (kq : Nat) (x30_3 : Bool), v30 = .bool x30_3 ∧ Aside0 (narcissusref02_Right.j0 kq a1 a2 x30_3 a0_0 a0_1 a0_2 a0_3 a0_4 = some r) ∧ Aside0 (kq ≤ k) ∧ Aside0 (wc.heap[gb1]? = some (.cells #[.int .i64 a0_0, .int .i64 a0_1, .int .i64 a0_2, .int .i64 a0_3, .string a0_4] 72 (0, 0))) ∧ Aside0 (Below w.heap.size w wc))
 case first =>
  have H := HC4.out
  clear HC4
  replace H := Option.bind_eq_some_iff.mp H
  obtain ⟨t2, A60, H⟩ := H
  replace H : (if t2 = true then (if a0_0 = 0 then (if a0_0 = 2 then (narcissusref02_Right.j0 k a1 a2 false a0_0 a0_1 a0_2 a0_3 a0_4) else (narcissusref02_Right.j0 k a1 a2 (a0_3 != 0) a0_0 a0_1 a0_2 a0_3 a0_4)) else (if a0_4.toList = ([] : List UInt8) then (if a0_0 = 2 then (narcissusref02_Right.j0 k a1 a2 false a0_0 a0_1 a0_2 a0_3 a0_4) else (narcissusref02_Right.j0 k a1 a2 (a0_3 != 0) a0_0 a0_1 a0_2 a0_3 a0_4)) else (narcissusref02_Right.j0 k a1 a2 true a0_0 a0_1 a0_2 a0_3 a0_4))) else (narcissusref02_Right.j0 k a1 a2 true a0_0 a0_1 a0_2 a0_3 a0_4)) = some r := H
  have A6 := Aside0.mk A60
  clear A60
  by_cases c7 : t2 = true
  ·subst c7
   have H1 : (if a0_0 = 0 then (if a0_0 = 2 then (narcissusref02_Right.j0 k a1 a2 false a0_0 a0_1 a0_2 a0_3 a0_4) else (narcissusref02_Right.j0 k a1 a2 (a0_3 != 0) a0_0 a0_1 a0_2 a0_3 a0_4)) else (if a0_4.toList = ([] : List UInt8) then (if a0_0 = 2 then (narcissusref02_Right.j0 k a1 a2 false a0_0 a0_1 a0_2 a0_3 a0_4) else (narcissusref02_Right.j0 k a1 a2 (a0_3 != 0) a0_0 a0_1 a0_2 a0_3 a0_4)) else (narcissusref02_Right.j0 k a1 a2 true a0_0 a0_1 a0_2 a0_3 a0_4))) = some r := by rw [if_pos rfl] at H; exact H
   clear H
   have H := H1
   clear H1
   by_cases c8 : a0_0 = 0
   ·rw [if_pos c8] at H
    have c8b0 : (a0_0 == 0) = true := beq_iff_eq.mpr c8
    have c8b1 : (a0_0 != 0) = false := bne_eq_false_iff_eq.mpr c8
    clear c8
    (first | rw [c8b0] | (simp only [i64_w, i32_w]; rw [c8b0]) | skip)
    by_cases c9 : a0_0 = 2
    ·rw [if_pos c9] at H
     have c9b0 : (a0_0 == 2) = true := beq_iff_eq.mpr c9
     have c9b1 : (a0_0 != 2) = false := bne_eq_false_iff_eq.mpr c9
     clear c9
     have H' := Aside0.mk H
     clear H
     have hcz10_0 : w5.cell? ⟨gb1, 0, none⟩ = some (.int .i64 a0_0) := (blk_cell BK1.out 0).trans rfl
     have hcz10_1 : w5.cell? ⟨gb1, 1, none⟩ = some (.int .i64 a0_1) := (blk_cell BK1.out 1).trans rfl
     have hcz10_2 : w5.cell? ⟨gb1, 2, none⟩ = some (.int .i64 a0_2) := (blk_cell BK1.out 2).trans rfl
     have hcz10_3 : w5.cell? ⟨gb1, 3, none⟩ = some (.int .i64 a0_3) := (blk_cell BK1.out 3).trans rfl
     have hcz10_4 : w5.cell? ⟨gb1, 4, none⟩ = some (.string a0_4) := (blk_cell BK1.out 4).trans rfl
     have hfz10_0 := blk_frozen BK1.out 0
     have hfz10_1 := blk_frozen BK1.out 1
     have hfz10_2 := blk_frozen BK1.out 2
     have hfz10_3 := blk_frozen BK1.out 3
     have hfz10_4 := blk_frozen BK1.out 4
     go_wp2_with (first | ((with_reducible refine gate_callee (f := 65) rfl ?_); refine goesL_ (some 9) rfl rfl Tryz.func65 (by kernel_rfl) rfl #[.int .i64 a0_1] rfl (by (try simp only [List.map_toArray, List.map_cons, List.map_nil]); first | done | rfl | (simp only [List.length_drop, List.length_take]; rfl)) ?_; (with_reducible refine (narcissusref02_Register.calls a0_1 true _ A6.out).mono ?_); rintro e w' ⟨rfl, ⟨nd, rfl⟩⟩; refine ⟨_, rfl, ?_⟩))
     go_meet
     case rel => exact ⟨_, (false), (by first | rfl | (simp; done) | (simp [*]; done)), H', ⟨by first | omega | exact Nat.le_refl _⟩, ⟨by (with_reducible repeat (first | refine blk_drewN ?_ _ | refine blk_drew ?_ | refine blk_alloc ?_ _)); exact BK1.out⟩, ⟨by repeat (first | (with_reducible first | exact HB.out | apply below_alloc | apply pw_below_drewN | apply below_drew1 | refine below_set ?_ GE1.out) | exact HB.out)⟩⟩
    ·rw [if_neg c9] at H
     have c9b0 : (a0_0 == 2) = false := beq_eq_false_iff_ne.mpr c9
     have c9b1 : (a0_0 != 2) = true := bne_iff_ne.mpr c9
     have H' := Aside0.mk H
     clear H
     have hcz11_0 : w5.cell? ⟨gb1, 0, none⟩ = some (.int .i64 a0_0) := (blk_cell BK1.out 0).trans rfl
     have hcz11_1 : w5.cell? ⟨gb1, 1, none⟩ = some (.int .i64 a0_1) := (blk_cell BK1.out 1).trans rfl
     have hcz11_2 : w5.cell? ⟨gb1, 2, none⟩ = some (.int .i64 a0_2) := (blk_cell BK1.out 2).trans rfl
     have hcz11_3 : w5.cell? ⟨gb1, 3, none⟩ = some (.int .i64 a0_3) := (blk_cell BK1.out 3).trans rfl
     have hcz11_4 : w5.cell? ⟨gb1, 4, none⟩ = some (.string a0_4) := (blk_cell BK1.out 4).trans rfl
     have hfz11_0 := blk_frozen BK1.out 0
     have hfz11_1 := blk_frozen BK1.out 1
     have hfz11_2 := blk_frozen BK1.out 2
     have hfz11_3 := blk_frozen BK1.out 3
     have hfz11_4 := blk_frozen BK1.out 4
     go_wp2_with (first | ((with_reducible refine gate_callee (f := 65) rfl ?_); refine goesL_ (some 9) rfl rfl Tryz.func65 (by kernel_rfl) rfl #[.int .i64 a0_1] rfl (by (try simp only [List.map_toArray, List.map_cons, List.map_nil]); first | done | rfl | (simp only [List.length_drop, List.length_take]; rfl)) ?_; (with_reducible refine (narcissusref02_Register.calls a0_1 true _ A6.out).mono ?_); rintro e w' ⟨rfl, ⟨nd, rfl⟩⟩; refine ⟨_, rfl, ?_⟩))
     go_meet
     case rel => exact ⟨_, ((a0_3 != 0)), (by first | rfl | (simp; done) | (simp [*]; done)), H', ⟨by first | omega | exact Nat.le_refl _⟩, ⟨by (with_reducible repeat (first | refine blk_drewN ?_ _ | refine blk_drew ?_ | refine blk_alloc ?_ _)); exact BK1.out⟩, ⟨by repeat (first | (with_reducible first | exact HB.out | apply below_alloc | apply pw_below_drewN | apply below_drew1 | refine below_set ?_ GE1.out) | exact HB.out)⟩⟩
   ·rw [if_neg c8] at H
    have c8b0 : (a0_0 == 0) = false := beq_eq_false_iff_ne.mpr c8
    have c8b1 : (a0_0 != 0) = true := bne_iff_ne.mpr c8
    (first | rw [c8b0] | (simp only [i64_w, i32_w]; rw [c8b0]) | skip)
    by_cases c12 : a0_4.toList = ([] : List UInt8)
    ·rw [if_pos c12] at H
     have c12b0 : (a0_4.toList == ([] : List UInt8)) = true := beq_iff_eq.mpr c12
     have c12b1 : (a0_4.toList != ([] : List UInt8)) = false := bne_eq_false_iff_eq.mpr c12
     clear c12
     by_cases c13 : a0_0 = 2
     ·rw [if_pos c13] at H
      have c13b0 : (a0_0 == 2) = true := beq_iff_eq.mpr c13
      have c13b1 : (a0_0 != 2) = false := bne_eq_false_iff_eq.mpr c13
      clear c13
      have H' := Aside0.mk H
      clear H
      have hcz14_0 : w5.cell? ⟨gb1, 0, none⟩ = some (.int .i64 a0_0) := (blk_cell BK1.out 0).trans rfl
      have hcz14_1 : w5.cell? ⟨gb1, 1, none⟩ = some (.int .i64 a0_1) := (blk_cell BK1.out 1).trans rfl
      have hcz14_2 : w5.cell? ⟨gb1, 2, none⟩ = some (.int .i64 a0_2) := (blk_cell BK1.out 2).trans rfl
      have hcz14_3 : w5.cell? ⟨gb1, 3, none⟩ = some (.int .i64 a0_3) := (blk_cell BK1.out 3).trans rfl
      have hcz14_4 : w5.cell? ⟨gb1, 4, none⟩ = some (.string a0_4) := (blk_cell BK1.out 4).trans rfl
      have hfz14_0 := blk_frozen BK1.out 0
      have hfz14_1 := blk_frozen BK1.out 1
      have hfz14_2 := blk_frozen BK1.out 2
      have hfz14_3 := blk_frozen BK1.out 3
      have hfz14_4 := blk_frozen BK1.out 4
      go_wp2_with (first | ((with_reducible refine gate_callee (f := 65) rfl ?_); refine goesL_ (some 9) rfl rfl Tryz.func65 (by kernel_rfl) rfl #[.int .i64 a0_1] rfl (by (try simp only [List.map_toArray, List.map_cons, List.map_nil]); first | done | rfl | (simp only [List.length_drop, List.length_take]; rfl)) ?_; (with_reducible refine (narcissusref02_Register.calls a0_1 true _ A6.out).mono ?_); rintro e w' ⟨rfl, ⟨nd, rfl⟩⟩; refine ⟨_, rfl, ?_⟩))
      go_meet
      case rel => exact ⟨_, (false), (by first | rfl | (simp; done) | (simp [*]; done)), H', ⟨by first | omega | exact Nat.le_refl _⟩, ⟨by (with_reducible repeat (first | refine blk_drewN ?_ _ | refine blk_drew ?_ | refine blk_alloc ?_ _)); exact BK1.out⟩, ⟨by repeat (first | (with_reducible first | exact HB.out | apply below_alloc | apply pw_below_drewN | apply below_drew1 | refine below_set ?_ GE1.out) | exact HB.out)⟩⟩
     ·rw [if_neg c13] at H
      have c13b0 : (a0_0 == 2) = false := beq_eq_false_iff_ne.mpr c13
      have c13b1 : (a0_0 != 2) = true := bne_iff_ne.mpr c13
      have H' := Aside0.mk H
      clear H
      have hcz15_0 : w5.cell? ⟨gb1, 0, none⟩ = some (.int .i64 a0_0) := (blk_cell BK1.out 0).trans rfl
      have hcz15_1 : w5.cell? ⟨gb1, 1, none⟩ = some (.int .i64 a0_1) := (blk_cell BK1.out 1).trans rfl
      have hcz15_2 : w5.cell? ⟨gb1, 2, none⟩ = some (.int .i64 a0_2) := (blk_cell BK1.out 2).trans rfl
      have hcz15_3 : w5.cell? ⟨gb1, 3, none⟩ = some (.int .i64 a0_3) := (blk_cell BK1.out 3).trans rfl
      have hcz15_4 : w5.cell? ⟨gb1, 4, none⟩ = some (.string a0_4) := (blk_cell BK1.out 4).trans rfl
      have hfz15_0 := blk_frozen BK1.out 0
      have hfz15_1 := blk_frozen BK1.out 1
      have hfz15_2 := blk_frozen BK1.out 2
      have hfz15_3 := blk_frozen BK1.out 3
      have hfz15_4 := blk_frozen BK1.out 4
      go_wp2_with (first | ((with_reducible refine gate_callee (f := 65) rfl ?_); refine goesL_ (some 9) rfl rfl Tryz.func65 (by kernel_rfl) rfl #[.int .i64 a0_1] rfl (by (try simp only [List.map_toArray, List.map_cons, List.map_nil]); first | done | rfl | (simp only [List.length_drop, List.length_take]; rfl)) ?_; (with_reducible refine (narcissusref02_Register.calls a0_1 true _ A6.out).mono ?_); rintro e w' ⟨rfl, ⟨nd, rfl⟩⟩; refine ⟨_, rfl, ?_⟩))
      go_meet
      case rel => exact ⟨_, ((a0_3 != 0)), (by first | rfl | (simp; done) | (simp [*]; done)), H', ⟨by first | omega | exact Nat.le_refl _⟩, ⟨by (with_reducible repeat (first | refine blk_drewN ?_ _ | refine blk_drew ?_ | refine blk_alloc ?_ _)); exact BK1.out⟩, ⟨by repeat (first | (with_reducible first | exact HB.out | apply below_alloc | apply pw_below_drewN | apply below_drew1 | refine below_set ?_ GE1.out) | exact HB.out)⟩⟩
    ·rw [if_neg c12] at H
     have c12b0 : (a0_4.toList == ([] : List UInt8)) = false := beq_eq_false_iff_ne.mpr c12
     have c12b1 : (a0_4.toList != ([] : List UInt8)) = true := bne_iff_ne.mpr c12
     have H' := Aside0.mk H
     clear H
     have hcz16_0 : w5.cell? ⟨gb1, 0, none⟩ = some (.int .i64 a0_0) := (blk_cell BK1.out 0).trans rfl
     have hcz16_1 : w5.cell? ⟨gb1, 1, none⟩ = some (.int .i64 a0_1) := (blk_cell BK1.out 1).trans rfl
     have hcz16_2 : w5.cell? ⟨gb1, 2, none⟩ = some (.int .i64 a0_2) := (blk_cell BK1.out 2).trans rfl
     have hcz16_3 : w5.cell? ⟨gb1, 3, none⟩ = some (.int .i64 a0_3) := (blk_cell BK1.out 3).trans rfl
     have hcz16_4 : w5.cell? ⟨gb1, 4, none⟩ = some (.string a0_4) := (blk_cell BK1.out 4).trans rfl
     have hfz16_0 := blk_frozen BK1.out 0
     have hfz16_1 := blk_frozen BK1.out 1
     have hfz16_2 := blk_frozen BK1.out 2
     have hfz16_3 := blk_frozen BK1.out 3
     have hfz16_4 := blk_frozen BK1.out 4
     go_wp2_with (first | ((with_reducible refine gate_callee (f := 65) rfl ?_); refine goesL_ (some 9) rfl rfl Tryz.func65 (by kernel_rfl) rfl #[.int .i64 a0_1] rfl (by (try simp only [List.map_toArray, List.map_cons, List.map_nil]); first | done | rfl | (simp only [List.length_drop, List.length_take]; rfl)) ?_; (with_reducible refine (narcissusref02_Register.calls a0_1 true _ A6.out).mono ?_); rintro e w' ⟨rfl, ⟨nd, rfl⟩⟩; refine ⟨_, rfl, ?_⟩))
     go_meet
     case rel => exact ⟨_, (true), (by first | rfl | (simp; done) | (simp [*]; done)), H', ⟨by first | omega | exact Nat.le_refl _⟩, ⟨by (with_reducible repeat (first | refine blk_drewN ?_ _ | refine blk_drew ?_ | refine blk_alloc ?_ _)); exact BK1.out⟩, ⟨by repeat (first | (with_reducible first | exact HB.out | apply below_alloc | apply pw_below_drewN | apply below_drew1 | refine below_set ?_ GE1.out) | exact HB.out)⟩⟩
  ·replace c7 := Bool.eq_false_iff.mpr c7
   subst c7
   have H1 : (narcissusref02_Right.j0 k a1 a2 true a0_0 a0_1 a0_2 a0_3 a0_4) = some r := by rw [if_neg (show ¬ (false = true) by decide)] at H; exact H
   clear H
   have H := H1
   clear H1
   have H' := Aside0.mk H
   clear H
   have hcz17_0 : w5.cell? ⟨gb1, 0, none⟩ = some (.int .i64 a0_0) := (blk_cell BK1.out 0).trans rfl
   have hcz17_1 : w5.cell? ⟨gb1, 1, none⟩ = some (.int .i64 a0_1) := (blk_cell BK1.out 1).trans rfl
   have hcz17_2 : w5.cell? ⟨gb1, 2, none⟩ = some (.int .i64 a0_2) := (blk_cell BK1.out 2).trans rfl
   have hcz17_3 : w5.cell? ⟨gb1, 3, none⟩ = some (.int .i64 a0_3) := (blk_cell BK1.out 3).trans rfl
   have hcz17_4 : w5.cell? ⟨gb1, 4, none⟩ = some (.string a0_4) := (blk_cell BK1.out 4).trans rfl
   have hfz17_0 := blk_frozen BK1.out 0
   have hfz17_1 := blk_frozen BK1.out 1
   have hfz17_2 := blk_frozen BK1.out 2
   have hfz17_3 := blk_frozen BK1.out 3
   have hfz17_4 := blk_frozen BK1.out 4
   go_wp2_with (first | ((with_reducible refine gate_callee (f := 65) rfl ?_); refine goesL_ (some 9) rfl rfl Tryz.func65 (by kernel_rfl) rfl #[.int .i64 a0_1] rfl (by (try simp only [List.map_toArray, List.map_cons, List.map_nil]); first | done | rfl | (simp only [List.length_drop, List.length_take]; rfl)) ?_; (with_reducible refine (narcissusref02_Register.calls a0_1 false _ A6.out).mono ?_); rintro e w' ⟨rfl, ⟨nd, rfl⟩⟩; refine ⟨_, rfl, ?_⟩))
   go_meet
   case rel => exact ⟨_, (true), (by first | rfl | (simp; done) | (simp [*]; done)), H', ⟨by first | omega | exact Nat.le_refl _⟩, ⟨by (with_reducible repeat (first | refine blk_drewN ?_ _ | refine blk_drew ?_ | refine blk_alloc ?_ _)); exact BK1.out⟩, ⟨by repeat (first | (with_reducible first | exact HB.out | apply below_alloc | apply pw_below_drewN | apply below_drew1 | refine below_set ?_ GE1.out) | exact HB.out)⟩⟩
 case rest =>
  clear HC4
  try clear c1
  try clear p2
  try clear c4
  try clear c6
  try clear c7
  try clear c8
  try clear c8b0
  try clear c8b1
  try clear c9
  try clear c9b0
  try clear c9b1
  try clear c12
  try clear c12b0
  try clear c12b1
  try clear c13
  try clear c13b0
  try clear c13b1
  try clear hcz10_0
  try clear hcz10_1
  try clear hcz10_2
  try clear hcz10_3
  try clear hcz10_4
  try clear hcz11_0
  try clear hcz11_1
  try clear hcz11_2
  try clear hcz11_3
  try clear hcz11_4
  try clear hcz14_0
  try clear hcz14_1
  try clear hcz14_2
  try clear hcz14_3
  try clear hcz14_4
  try clear hcz15_0
  try clear hcz15_1
  try clear hcz15_2
  try clear hcz15_3
  try clear hcz15_4
  try clear hcz16_0
  try clear hcz16_1
  try clear hcz16_2
  try clear hcz16_3
  try clear hcz16_4
  try clear hcz17_0
  try clear hcz17_1
  try clear hcz17_2
  try clear hcz17_3
  try clear hcz17_4
  try clear hfz10_0
  try clear hfz10_1
  try clear hfz10_2
  try clear hfz10_3
  try clear hfz10_4
  try clear hfz11_0
  try clear hfz11_1
  try clear hfz11_2
  try clear hfz11_3
  try clear hfz11_4
  try clear hfz14_0
  try clear hfz14_1
  try clear hfz14_2
  try clear hfz14_3
  try clear hfz14_4
  try clear hfz15_0
  try clear hfz15_1
  try clear hfz15_2
  try clear hfz15_3
  try clear hfz15_4
  try clear hfz16_0
  try clear hfz16_1
  try clear hfz16_2
  try clear hfz16_3
  try clear hfz16_4
  try clear hfz17_0
  try clear hfz17_1
  try clear hfz17_2
  try clear hfz17_3
  try clear hfz17_4
  obtain ⟨kq, x30_3, rfl, HA, HJ3, BK1, HB⟩ := hcut
  cases kq with
  | zero => exact absurd HA.out (by simp [narcissusref02_Right.j0])
  | succ kj3 =>
   have H := HA.out
   clear HA
   simp only [narcissusref02_Right.j0] at H
   by_cases c18 : x30_3 = true
   ·subst c18
    have H1 : (some false) = some r := by rw [if_pos rfl] at H; exact H
    clear H
    have H := H1
    clear H1
    obtain rfl := Option.some.inj H
    go_wp2
    go_ret
    exact ⟨by first | rfl | (simp [errW_none, errW_some] <;> rfl) | (simp [*, errW_none, errW_some] <;> rfl), by repeat (first | (with_reducible first | exact HB.out | apply below_alloc | apply pw_below_drewN | apply below_drew1 | refine below_set ?_ GE1.out) | exact HB.out)⟩
   ·replace c18 := Bool.eq_false_iff.mpr c18
    subst c18
    have H1 : (if a0_0 = 0 then (if a0_2 = 0 then ((narcissusref01_Valid.f kj3 a0_4).bind fun t3 => (some t3)) else (some false)) else (if a0_0 = 1 then (narcissusref02_Right.j1 kj3 a1 a2 a0_0 (a0_0 == 1) a0_0 a0_1 a0_2 a0_3 a0_4) else (if a0_0 = 3 then (narcissusref02_Right.j1 kj3 a1 a2 a0_0 (a0_0 == 3) a0_0 a0_1 a0_2 a0_3 a0_4) else (narcissusref02_Right.j1 kj3 a1 a2 a0_0 (a0_0 == 4) a0_0 a0_1 a0_2 a0_3 a0_4)))) = some r := by rw [if_neg (show ¬ (false = true) by decide)] at H; exact H
    clear H
    have H := H1
    clear H1
    by_cases c19 : a0_0 = 0
    ·rw [if_pos c19] at H
     have c19b0 : (a0_0 == 0) = true := beq_iff_eq.mpr c19
     have c19b1 : (a0_0 != 0) = false := bne_eq_false_iff_eq.mpr c19
     clear c19
     by_cases c20 : a0_2 = 0
     ·rw [if_pos c20] at H
      have c20b0 : (a0_2 == 0) = true := beq_iff_eq.mpr c20
      have c20b1 : (a0_2 != 0) = false := bne_eq_false_iff_eq.mpr c20
      clear c20
      replace H := Option.bind_eq_some_iff.mp H
      obtain ⟨t3, A210, H⟩ := H
      replace H : (some t3) = some r := H
      have A21 := Aside0.mk A210
      clear A210
      obtain rfl := Option.some.inj H
      have hcz22_0 : wc.cell? ⟨gb1, 0, none⟩ = some (.int .i64 a0_0) := (blk_cell BK1.out 0).trans rfl
      have hcz22_1 : wc.cell? ⟨gb1, 1, none⟩ = some (.int .i64 a0_1) := (blk_cell BK1.out 1).trans rfl
      have hcz22_2 : wc.cell? ⟨gb1, 2, none⟩ = some (.int .i64 a0_2) := (blk_cell BK1.out 2).trans rfl
      have hcz22_3 : wc.cell? ⟨gb1, 3, none⟩ = some (.int .i64 a0_3) := (blk_cell BK1.out 3).trans rfl
      have hcz22_4 : wc.cell? ⟨gb1, 4, none⟩ = some (.string a0_4) := (blk_cell BK1.out 4).trans rfl
      have hfz22_0 := blk_frozen BK1.out 0
      have hfz22_1 := blk_frozen BK1.out 1
      have hfz22_2 := blk_frozen BK1.out 2
      have hfz22_3 := blk_frozen BK1.out 3
      have hfz22_4 := blk_frozen BK1.out 4
      go_wp2_with (first | (go_at_call 20; (with_reducible refine (narcissusref01_Valid.calls kj3 a0_4 t3 _ A21.out).mono ?_); rintro e w' ⟨rfl, ⟨nd, rfl⟩⟩))
      go_ret
      exact ⟨by first | rfl | (simp [errW_none, errW_some] <;> rfl) | (simp [*, errW_none, errW_some] <;> rfl), by repeat (first | (with_reducible first | exact HB.out | apply below_alloc | apply pw_below_drewN | apply below_drew1 | refine below_set ?_ GE1.out) | exact HB.out)⟩
     ·rw [if_neg c20] at H
      have c20b0 : (a0_2 == 0) = false := beq_eq_false_iff_ne.mpr c20
      have c20b1 : (a0_2 != 0) = true := bne_iff_ne.mpr c20
      obtain rfl := Option.some.inj H
      have hcz23_0 : wc.cell? ⟨gb1, 0, none⟩ = some (.int .i64 a0_0) := (blk_cell BK1.out 0).trans rfl
      have hcz23_1 : wc.cell? ⟨gb1, 1, none⟩ = some (.int .i64 a0_1) := (blk_cell BK1.out 1).trans rfl
      have hcz23_2 : wc.cell? ⟨gb1, 2, none⟩ = some (.int .i64 a0_2) := (blk_cell BK1.out 2).trans rfl
      have hcz23_3 : wc.cell? ⟨gb1, 3, none⟩ = some (.int .i64 a0_3) := (blk_cell BK1.out 3).trans rfl
      have hcz23_4 : wc.cell? ⟨gb1, 4, none⟩ = some (.string a0_4) := (blk_cell BK1.out 4).trans rfl
      have hfz23_0 := blk_frozen BK1.out 0
      have hfz23_1 := blk_frozen BK1.out 1
      have hfz23_2 := blk_frozen BK1.out 2
      have hfz23_3 := blk_frozen BK1.out 3
      have hfz23_4 := blk_frozen BK1.out 4
      go_wp2
      go_ret
      exact ⟨by first | rfl | (simp [errW_none, errW_some] <;> rfl) | (simp [*, errW_none, errW_some] <;> rfl), by repeat (first | (with_reducible first | exact HB.out | apply below_alloc | apply pw_below_drewN | apply below_drew1 | refine below_set ?_ GE1.out) | exact HB.out)⟩
    ·rw [if_neg c19] at H
     have c19b0 : (a0_0 == 0) = false := beq_eq_false_iff_ne.mpr c19
     have c19b1 : (a0_0 != 0) = true := bne_iff_ne.mpr c19
     have HC24 := Aside0.mk H
     clear H
     have hcz25_0 : wc.cell? ⟨gb1, 0, none⟩ = some (.int .i64 a0_0) := (blk_cell BK1.out 0).trans rfl
     have hcz25_1 : wc.cell? ⟨gb1, 1, none⟩ = some (.int .i64 a0_1) := (blk_cell BK1.out 1).trans rfl
     have hcz25_2 : wc.cell? ⟨gb1, 2, none⟩ = some (.int .i64 a0_2) := (blk_cell BK1.out 2).trans rfl
     have hcz25_3 : wc.cell? ⟨gb1, 3, none⟩ = some (.int .i64 a0_3) := (blk_cell BK1.out 3).trans rfl
     have hcz25_4 : wc.cell? ⟨gb1, 4, none⟩ = some (.string a0_4) := (blk_cell BK1.out 4).trans rfl
     have hfz25_0 := blk_frozen BK1.out 0
     have hfz25_1 := blk_frozen BK1.out 1
     have hfz25_2 := blk_frozen BK1.out 2
     have hfz25_3 := blk_frozen BK1.out 3
     have hfz25_4 := blk_frozen BK1.out 4
     go_upto_if 43 with (fail)
     go_cut [43] (fun v43 wc => ∃ (kq : Nat) (x43_23 : Bool), v43 = .bool x43_23 ∧ Aside0 (narcissusref02_Right.j1 kq a1 a2 a0_0 x43_23 a0_0 a0_1 a0_2 a0_3 a0_4 = some r) ∧ Aside0 (kq ≤ kj3) ∧ Aside0 (wc.heap[gb1]? = some (.cells #[.int .i64 a0_0, .int .i64 a0_1, .int .i64 a0_2, .int .i64 a0_3, .string a0_4] 72 (0, 0))) ∧ Aside0 (Below w.heap.size w wc))
     case first =>
      have H := HC24.out
      clear HC24
      by_cases c26 : a0_0 = 1
      ·rw [if_pos c26] at H
       have c26b0 : (a0_0 == 1) = true := beq_iff_eq.mpr c26
       have c26b1 : (a0_0 != 1) = false := bne_eq_false_iff_eq.mpr c26
       clear c26
       (first | rw [c26b0] | (simp only [i64_w, i32_w]; rw [c26b0]) | skip)
       have H' := Aside0.mk H
       clear H
       go_wp2
       go_meet
       case rel => exact ⟨_, ((a0_0 == 1)), (by first | rfl | (simp; done) | (simp [*]; done)), H', ⟨by have := HJ3.out; first | omega | exact Nat.le_refl _⟩, ⟨by (with_reducible repeat (first | refine blk_drewN ?_ _ | refine blk_drew ?_ | refine blk_alloc ?_ _)); exact BK1.out⟩, ⟨by repeat (first | (with_reducible first | exact HB.out | apply below_alloc | apply pw_below_drewN | apply below_drew1 | refine below_set ?_ GE1.out) | exact HB.out)⟩⟩
      ·rw [if_neg c26] at H
       have c26b0 : (a0_0 == 1) = false := beq_eq_false_iff_ne.mpr c26
       have c26b1 : (a0_0 != 1) = true := bne_iff_ne.mpr c26
       (first | rw [c26b0] | (simp only [i64_w, i32_w]; rw [c26b0]) | skip)
       by_cases c27 : a0_0 = 3
       ·rw [if_pos c27] at H
        have c27b0 : (a0_0 == 3) = true := beq_iff_eq.mpr c27
        have c27b1 : (a0_0 != 3) = false := bne_eq_false_iff_eq.mpr c27
        clear c27
        have H' := Aside0.mk H
        clear H
        go_wp2
        go_meet
        case rel => exact ⟨_, ((a0_0 == 3)), (by first | rfl | (simp; done) | (simp [*]; done)), H', ⟨by have := HJ3.out; first | omega | exact Nat.le_refl _⟩, ⟨by (with_reducible repeat (first | refine blk_drewN ?_ _ | refine blk_drew ?_ | refine blk_alloc ?_ _)); exact BK1.out⟩, ⟨by repeat (first | (with_reducible first | exact HB.out | apply below_alloc | apply pw_below_drewN | apply below_drew1 | refine below_set ?_ GE1.out) | exact HB.out)⟩⟩
       ·rw [if_neg c27] at H
        have c27b0 : (a0_0 == 3) = false := beq_eq_false_iff_ne.mpr c27
        have c27b1 : (a0_0 != 3) = true := bne_iff_ne.mpr c27
        have H' := Aside0.mk H
        clear H
        go_wp2
        go_meet
        case rel => exact ⟨_, ((a0_0 == 4)), (by first | rfl | (simp; done) | (simp [*]; done)), H', ⟨by have := HJ3.out; first | omega | exact Nat.le_refl _⟩, ⟨by (with_reducible repeat (first | refine blk_drewN ?_ _ | refine blk_drew ?_ | refine blk_alloc ?_ _)); exact BK1.out⟩, ⟨by repeat (first | (with_reducible first | exact HB.out | apply below_alloc | apply pw_below_drewN | apply below_drew1 | refine below_set ?_ GE1.out) | exact HB.out)⟩⟩
     case rest =>
      clear HC24
      try clear c1
      try clear c2
      try clear p2
      try clear c4
      try clear c6
      try clear c7
      try clear c8
      try clear c8b0
      try clear c8b1
      try clear c9
      try clear c9b0
      try clear c9b1
      try clear c12
      try clear c12b0
      try clear c12b1
      try clear c13
      try clear c13b0
      try clear c13b1
      try clear c18
      try clear c19
      try clear c19b0
      try clear c19b1
      try clear c20
      try clear c20b0
      try clear c20b1
      try clear c26
      try clear c26b0
      try clear c26b1
      try clear c27
      try clear c27b0
      try clear c27b1
      try clear hcz10_0
      try clear hcz10_1
      try clear hcz10_2
      try clear hcz10_3
      try clear hcz10_4
      try clear hcz11_0
      try clear hcz11_1
      try clear hcz11_2
      try clear hcz11_3
      try clear hcz11_4
      try clear hcz14_0
      try clear hcz14_1
      try clear hcz14_2
      try clear hcz14_3
      try clear hcz14_4
      try clear hcz15_0
      try clear hcz15_1
      try clear hcz15_2
      try clear hcz15_3
      try clear hcz15_4
      try clear hcz16_0
      try clear hcz16_1
      try clear hcz16_2
      try clear hcz16_3
      try clear hcz16_4
      try clear hcz17_0
      try clear hcz17_1
      try clear hcz17_2
      try clear hcz17_3
      try clear hcz17_4
      try clear hcz22_0
      try clear hcz22_1
      try clear hcz22_2
      try clear hcz22_3
      try clear hcz22_4
      try clear hcz23_0
      try clear hcz23_1
      try clear hcz23_2
      try clear hcz23_3
      try clear hcz23_4
      try clear hcz25_0
      try clear hcz25_1
      try clear hcz25_2
      try clear hcz25_3
      try clear hcz25_4
      try clear hfz10_0
      try clear hfz10_1
      try clear hfz10_2
      try clear hfz10_3
      try clear hfz10_4
      try clear hfz11_0
      try clear hfz11_1
      try clear hfz11_2
      try clear hfz11_3
      try clear hfz11_4
      try clear hfz14_0
      try clear hfz14_1
      try clear hfz14_2
      try clear hfz14_3
      try clear hfz14_4
      try clear hfz15_0
      try clear hfz15_1
      try clear hfz15_2
      try clear hfz15_3
      try clear hfz15_4
      try clear hfz16_0
      try clear hfz16_1
      try clear hfz16_2
      try clear hfz16_3
      try clear hfz16_4
      try clear hfz17_0
      try clear hfz17_1
      try clear hfz17_2
      try clear hfz17_3
      try clear hfz17_4
      try clear hfz22_0
      try clear hfz22_1
      try clear hfz22_2
      try clear hfz22_3
      try clear hfz22_4
      try clear hfz23_0
      try clear hfz23_1
      try clear hfz23_2
      try clear hfz23_3
      try clear hfz23_4
      try clear hfz25_0
      try clear hfz25_1
      try clear hfz25_2
      try clear hfz25_3
      try clear hfz25_4
      try clear p2
      obtain ⟨kq, x43_23, rfl, HA, HJ23, BK1, HB⟩ := hcut
      cases kq with
      | zero => exact absurd HA.out (by simp [narcissusref02_Right.j1])
      | succ kj23 =>
       have H := HA.out
       clear HA
       simp only [narcissusref02_Right.j1] at H
       by_cases c28 : x43_23 = true
       ·subst c28
        have H1 : ((narcissusref02_Register.f a0_2).bind fun t4 => (some t4)) = some r := by rw [if_pos rfl] at H; exact H
        clear H
        have H := H1
        clear H1
        replace H := Option.bind_eq_some_iff.mp H
        obtain ⟨t4, A290, H⟩ := H
        replace H : (some t4) = some r := H
        have A29 := Aside0.mk A290
        clear A290
        obtain rfl := Option.some.inj H
        have hcz30_0 : wc.cell? ⟨gb1, 0, none⟩ = some (.int .i64 a0_0) := (blk_cell BK1.out 0).trans rfl
        have hcz30_1 : wc.cell? ⟨gb1, 1, none⟩ = some (.int .i64 a0_1) := (blk_cell BK1.out 1).trans rfl
        have hcz30_2 : wc.cell? ⟨gb1, 2, none⟩ = some (.int .i64 a0_2) := (blk_cell BK1.out 2).trans rfl
        have hcz30_3 : wc.cell? ⟨gb1, 3, none⟩ = some (.int .i64 a0_3) := (blk_cell BK1.out 3).trans rfl
        have hcz30_4 : wc.cell? ⟨gb1, 4, none⟩ = some (.string a0_4) := (blk_cell BK1.out 4).trans rfl
        have hfz30_0 := blk_frozen BK1.out 0
        have hfz30_1 := blk_frozen BK1.out 1
        have hfz30_2 := blk_frozen BK1.out 2
        have hfz30_3 := blk_frozen BK1.out 3
        have hfz30_4 := blk_frozen BK1.out 4
        go_wp2_with (first | ((with_reducible refine gate_callee (f := 65) rfl ?_); refine goesL_ (some 49) rfl rfl Tryz.func65 (by kernel_rfl) rfl #[.int .i64 a0_2] rfl (by (try simp only [List.map_toArray, List.map_cons, List.map_nil]); first | done | rfl | (simp only [List.length_drop, List.length_take]; rfl)) ?_; (with_reducible refine (narcissusref02_Register.calls a0_2 t4 _ A29.out).mono ?_); rintro e w' ⟨rfl, ⟨nd, rfl⟩⟩; refine ⟨_, rfl, ?_⟩))
        go_ret
        exact ⟨by first | rfl | (simp [errW_none, errW_some] <;> rfl) | (simp [*, errW_none, errW_some] <;> rfl), by repeat (first | (with_reducible first | exact HB.out | apply below_alloc | apply pw_below_drewN | apply below_drew1 | refine below_set ?_ GE1.out) | exact HB.out)⟩
       ·replace c28 := Bool.eq_false_iff.mpr c28
        subst c28
        have H1 : (if a0_0 = 2 then ((narcissusref02_Register.f a0_2).bind fun t5 => (if t5 = true then ((narcissusref02_Register.f a0_3).bind fun t6 => (some t6)) else (some false))) else (if a0_0 = 5 then (if a0_2 ≥ (wrap64 (-a1)) then (some (decide (a0_2 ≤ (wrap64 (a2 - a1))))) else (some false)) else (some false))) = some r := by rw [if_neg (show ¬ (false = true) by decide)] at H; exact H
        clear H
        have H := H1
        clear H1
        by_cases c31 : a0_0 = 2
        ·rw [if_pos c31] at H
         have c31b0 : (a0_0 == 2) = true := beq_iff_eq.mpr c31
         have c31b1 : (a0_0 != 2) = false := bne_eq_false_iff_eq.mpr c31
         clear c31
         replace H := Option.bind_eq_some_iff.mp H
         obtain ⟨t5, A320, H⟩ := H
         replace H : (if t5 = true then ((narcissusref02_Register.f a0_3).bind fun t6 => (some t6)) else (some false)) = some r := H
         have A32 := Aside0.mk A320
         clear A320
         by_cases c33 : t5 = true
         ·subst c33
          have H1 : ((narcissusref02_Register.f a0_3).bind fun t6 => (some t6)) = some r := by rw [if_pos rfl] at H; exact H
          clear H
          have H := H1
          clear H1
          replace H := Option.bind_eq_some_iff.mp H
          obtain ⟨t6, A340, H⟩ := H
          replace H : (some t6) = some r := H
          have A34 := Aside0.mk A340
          clear A340
          obtain rfl := Option.some.inj H
          have hcz35_0 : wc.cell? ⟨gb1, 0, none⟩ = some (.int .i64 a0_0) := (blk_cell BK1.out 0).trans rfl
          have hcz35_1 : wc.cell? ⟨gb1, 1, none⟩ = some (.int .i64 a0_1) := (blk_cell BK1.out 1).trans rfl
          have hcz35_2 : wc.cell? ⟨gb1, 2, none⟩ = some (.int .i64 a0_2) := (blk_cell BK1.out 2).trans rfl
          have hcz35_3 : wc.cell? ⟨gb1, 3, none⟩ = some (.int .i64 a0_3) := (blk_cell BK1.out 3).trans rfl
          have hcz35_4 : wc.cell? ⟨gb1, 4, none⟩ = some (.string a0_4) := (blk_cell BK1.out 4).trans rfl
          have hfz35_0 := blk_frozen BK1.out 0
          have hfz35_1 := blk_frozen BK1.out 1
          have hfz35_2 := blk_frozen BK1.out 2
          have hfz35_3 := blk_frozen BK1.out 3
          have hfz35_4 := blk_frozen BK1.out 4
          go_wp2_with (first | ((with_reducible refine gate_callee (f := 65) rfl ?_); refine goesL_ (some 54) rfl rfl Tryz.func65 (by kernel_rfl) rfl #[.int .i64 a0_2] rfl (by (try simp only [List.map_toArray, List.map_cons, List.map_nil]); first | done | rfl | (simp only [List.length_drop, List.length_take]; rfl)) ?_; (with_reducible refine (narcissusref02_Register.calls a0_2 true _ A32.out).mono ?_); rintro e w' ⟨rfl, ⟨nd, rfl⟩⟩; refine ⟨_, rfl, ?_⟩) | (go_at_call 65; (with_reducible refine (narcissusref02_Register.calls a0_3 t6 _ A34.out).mono ?_); rintro e w' ⟨rfl, ⟨nd, rfl⟩⟩))
          go_ret
          exact ⟨by first | rfl | (simp [errW_none, errW_some] <;> rfl) | (simp [*, errW_none, errW_some] <;> rfl), by repeat (first | (with_reducible first | exact HB.out | apply below_alloc | apply pw_below_drewN | apply below_drew1 | refine below_set ?_ GE1.out) | exact HB.out)⟩
         ·replace c33 := Bool.eq_false_iff.mpr c33
          subst c33
          have H1 : (some false) = some r := by rw [if_neg (show ¬ (false = true) by decide)] at H; exact H
          clear H
          have H := H1
          clear H1
          obtain rfl := Option.some.inj H
          have hcz36_0 : wc.cell? ⟨gb1, 0, none⟩ = some (.int .i64 a0_0) := (blk_cell BK1.out 0).trans rfl
          have hcz36_1 : wc.cell? ⟨gb1, 1, none⟩ = some (.int .i64 a0_1) := (blk_cell BK1.out 1).trans rfl
          have hcz36_2 : wc.cell? ⟨gb1, 2, none⟩ = some (.int .i64 a0_2) := (blk_cell BK1.out 2).trans rfl
          have hcz36_3 : wc.cell? ⟨gb1, 3, none⟩ = some (.int .i64 a0_3) := (blk_cell BK1.out 3).trans rfl
          have hcz36_4 : wc.cell? ⟨gb1, 4, none⟩ = some (.string a0_4) := (blk_cell BK1.out 4).trans rfl
          have hfz36_0 := blk_frozen BK1.out 0
          have hfz36_1 := blk_frozen BK1.out 1
          have hfz36_2 := blk_frozen BK1.out 2
          have hfz36_3 := blk_frozen BK1.out 3
          have hfz36_4 := blk_frozen BK1.out 4
          go_wp2_with (first | ((with_reducible refine gate_callee (f := 65) rfl ?_); refine goesL_ (some 54) rfl rfl Tryz.func65 (by kernel_rfl) rfl #[.int .i64 a0_2] rfl (by (try simp only [List.map_toArray, List.map_cons, List.map_nil]); first | done | rfl | (simp only [List.length_drop, List.length_take]; rfl)) ?_; (with_reducible refine (narcissusref02_Register.calls a0_2 false _ A32.out).mono ?_); rintro e w' ⟨rfl, ⟨nd, rfl⟩⟩; refine ⟨_, rfl, ?_⟩))
          go_ret
          exact ⟨by first | rfl | (simp [errW_none, errW_some] <;> rfl) | (simp [*, errW_none, errW_some] <;> rfl), by repeat (first | (with_reducible first | exact HB.out | apply below_alloc | apply pw_below_drewN | apply below_drew1 | refine below_set ?_ GE1.out) | exact HB.out)⟩
        ·rw [if_neg c31] at H
         have c31b0 : (a0_0 == 2) = false := beq_eq_false_iff_ne.mpr c31
         have c31b1 : (a0_0 != 2) = true := bne_iff_ne.mpr c31
         by_cases c37 : a0_0 = 5
         ·rw [if_pos c37] at H
          have c37b0 : (a0_0 == 5) = true := beq_iff_eq.mpr c37
          have c37b1 : (a0_0 != 5) = false := bne_eq_false_iff_eq.mpr c37
          clear c37
          by_cases c38 : a0_2 ≥ (wrap64 (-a1))
          ·rw [if_pos c38] at H
           have c38b0 : decide ((wrap64 (-a1)) ≤ a0_2) = true := decide_eq_true c38
           clear c38
           obtain rfl := Option.some.inj H
           have hcz39_0 : wc.cell? ⟨gb1, 0, none⟩ = some (.int .i64 a0_0) := (blk_cell BK1.out 0).trans rfl
           have hcz39_1 : wc.cell? ⟨gb1, 1, none⟩ = some (.int .i64 a0_1) := (blk_cell BK1.out 1).trans rfl
           have hcz39_2 : wc.cell? ⟨gb1, 2, none⟩ = some (.int .i64 a0_2) := (blk_cell BK1.out 2).trans rfl
           have hcz39_3 : wc.cell? ⟨gb1, 3, none⟩ = some (.int .i64 a0_3) := (blk_cell BK1.out 3).trans rfl
           have hcz39_4 : wc.cell? ⟨gb1, 4, none⟩ = some (.string a0_4) := (blk_cell BK1.out 4).trans rfl
           have hfz39_0 := blk_frozen BK1.out 0
           have hfz39_1 := blk_frozen BK1.out 1
           have hfz39_2 := blk_frozen BK1.out 2
           have hfz39_3 := blk_frozen BK1.out 3
           have hfz39_4 := blk_frozen BK1.out 4
           go_wp2
           go_ret
           exact ⟨by first | rfl | (simp [errW_none, errW_some] <;> rfl) | (simp [*, errW_none, errW_some] <;> rfl), by repeat (first | (with_reducible first | exact HB.out | apply below_alloc | apply pw_below_drewN | apply below_drew1 | refine below_set ?_ GE1.out) | exact HB.out)⟩
          ·rw [if_neg c38] at H
           have c38b0 : decide ((wrap64 (-a1)) ≤ a0_2) = false := decide_eq_false c38
           clear c38
           obtain rfl := Option.some.inj H
           have hcz40_0 : wc.cell? ⟨gb1, 0, none⟩ = some (.int .i64 a0_0) := (blk_cell BK1.out 0).trans rfl
           have hcz40_1 : wc.cell? ⟨gb1, 1, none⟩ = some (.int .i64 a0_1) := (blk_cell BK1.out 1).trans rfl
           have hcz40_2 : wc.cell? ⟨gb1, 2, none⟩ = some (.int .i64 a0_2) := (blk_cell BK1.out 2).trans rfl
           have hcz40_3 : wc.cell? ⟨gb1, 3, none⟩ = some (.int .i64 a0_3) := (blk_cell BK1.out 3).trans rfl
           have hcz40_4 : wc.cell? ⟨gb1, 4, none⟩ = some (.string a0_4) := (blk_cell BK1.out 4).trans rfl
           have hfz40_0 := blk_frozen BK1.out 0
           have hfz40_1 := blk_frozen BK1.out 1
           have hfz40_2 := blk_frozen BK1.out 2
           have hfz40_3 := blk_frozen BK1.out 3
           have hfz40_4 := blk_frozen BK1.out 4
           go_wp2
           go_ret
           exact ⟨by first | rfl | (simp [errW_none, errW_some] <;> rfl) | (simp [*, errW_none, errW_some] <;> rfl), by repeat (first | (with_reducible first | exact HB.out | apply below_alloc | apply pw_below_drewN | apply below_drew1 | refine below_set ?_ GE1.out) | exact HB.out)⟩
         ·rw [if_neg c37] at H
          have c37b0 : (a0_0 == 5) = false := beq_eq_false_iff_ne.mpr c37
          have c37b1 : (a0_0 != 5) = true := bne_iff_ne.mpr c37
          obtain rfl := Option.some.inj H
          go_wp2
          go_ret
          exact ⟨by first | rfl | (simp [errW_none, errW_some] <;> rfl) | (simp [*, errW_none, errW_some] <;> rfl), by repeat (first | (with_reducible first | exact HB.out | apply below_alloc | apply pw_below_drewN | apply below_drew1 | refine below_set ?_ GE1.out) | exact HB.out)⟩
end Go.Proofs.YtocoamgbpoommaaGreatDoor.C
end
