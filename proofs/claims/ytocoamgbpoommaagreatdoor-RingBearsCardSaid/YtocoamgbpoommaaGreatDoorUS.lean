/- Texts of this claim, together: what the functions return, and what they say in plain words. -/
import Derived.Test.YtocoamgbpoommaaGreatDoorUB
import Derived.Test.YtocoamgbpoommaaGreatDoorUP
import Derived.Test.YtocoamgbpoommaaGreatDoorUR
import Derived.Test.YtocoamgbpoommaaGreatDoorUJ
import Derived.Test.YtocoamgbpoommaaGreatDoorUC
section
namespace Go.Proofs.YtocoamgbpoommaaGreatDoor.C
open Go.RowKit Go.Proofs.YtocoamgbpoommaaGreatDoorW.PrintWords Go.Proofs.YtocoamgbpoommaaGreatDoorW.PrintLast Go.Proofs.YtocoamgbpoommaaGreatDoorW.PrintMore
attribute [local go_sem] max2_int min2_int max_two min_two max_three min_three max_four min_four
set_option linter.unusedVariables false
set_option linter.unusedSimpArgs false
mutual
def narcissusref02_Valid.j0 : Nat → List (S72) → Bool → Option (Bool)
 | 0, _, _ => none
 | k + 1, x0, x11 => if x11 = true then (some false) else (narcissusref02_Valid.l0 k x0 0)
def narcissusref02_Valid.l0 : Nat → List (S72) → Int → Option (Bool)
 | 0, _, _ => none
 | k + 1, x0, x3 => if x3 < (x0.length : Int) then (if 0 ≤ x3 then ((narcissusref02_Right.f k ((rd_T72 x0 x3).f0) ((rd_T72 x0 x3).f1) ((rd_T72 x0 x3).f2) ((rd_T72 x0 x3).f3) ((rd_T72 x0 x3).f4) x3 (x0.length : Int)).bind fun t3 => (if t3 = true then (narcissusref02_Valid.l0 k x0 (wrap64 (x3 + 1))) else (some false))) else (none)) else (some true)
end
def narcissusref02_Valid.f (k : Nat) (l0 : List (S72)) : Option (Bool) := if (l0.length : Int) > 4000 then (narcissusref02_Valid.j0 k l0 true) else ((narcissusref02_Trees.f k l0).bind fun t1 => (narcissusref02_Valid.j0 k l0 (decide (t1 > 2000000))))
set_option maxHeartbeats 8000000 in
set_option maxRecDepth 100000 in
theorem narcissusref02_Valid.calls (k : Nat) (A0 : Option Addr) (c0 : Nat) (l0 : List (S72)) (r : Bool) (w : World) (hr0 : Kd.C k72 w A0 l0.length l0) (hc0 : l0.length ≤ c0) (h : narcissusref02_Valid.f k l0 = some r) :
  Calls Tryz.prog 27 #[.slice A0 l0.length c0] w fun e w' => e = .returned (.bool r) ∧ Below w.heap.size w w' := by
 have hu72 := Tryz.underlying72
 have HR0 := Aside0.mk hr0
 have HC0 := Aside0.mk hc0
 clear hr0 hc0
 have HB := Aside0.mk (Below.refl w.heap.size w)
 have H : (if (l0.length : Int) > 4000 then (narcissusref02_Valid.j0 k l0 true) else ((narcissusref02_Trees.f k l0).bind fun t1 => (narcissusref02_Valid.j0 k l0 (decide (t1 > 2000000))))) = some r := h
 clear h
 have HC2 := Aside0.mk H
 clear H
 go_enter Tryz.func27, Tryz.ntmps27
 go_upto_region 1 with (fail)
 go_cut [11] (fun v11 wc => ∃ (kq : Nat) (x11_1 : Bool), v11 = .bool x11_1 ∧ Aside0 (narcissusref02_Valid.j0 kq l0 x11_1 = some r) ∧ Aside0 (kq ≤ k) ∧ Aside0 (Below w.heap.size w wc))
 case first =>
  have H := HC2.out
  clear HC2
  by_cases c3 : (l0.length : Int) > 4000
  ·rw [if_pos c3] at H
   have c3b0 : decide (4000 < (l0.length : Int)) = true := decide_eq_true c3
   have c3b1 : decide (4000 < l0.length) = true := decide_eq_true (by omega)
   clear c3
   (first | rw [c3b0] | (simp only [i64_w, i32_w]; rw [c3b0]) | skip)
   have H' := Aside0.mk H
   clear H
   go_wp2
   go_meet
   case rel => exact ⟨_, (true), (by first | rfl | (simp; done) | (simp [*]; done)), H', ⟨by first | omega | exact Nat.le_refl _⟩, ⟨by repeat (first | (with_reducible first | exact HB.out | apply below_alloc | apply pw_below_drewN | apply below_drew1) | exact HB.out)⟩⟩
  ·rw [if_neg c3] at H
   have c3b0 : decide (4000 < (l0.length : Int)) = false := decide_eq_false c3
   have c3b1 : decide (4000 < l0.length) = false := decide_eq_false (by omega)
   clear c3
   (first | rw [c3b0] | (simp only [i64_w, i32_w]; rw [c3b0]) | skip)
   replace H := Option.bind_eq_some_iff.mp H
   obtain ⟨t1, A40, H⟩ := H
   replace H : (narcissusref02_Valid.j0 k l0 (decide (t1 > 2000000))) = some r := H
   have A4 := Aside0.mk A40
   clear A40
   have H' := Aside0.mk H
   clear H
   go_wp2_with (first | (go_at_call 36; (with_reducible refine (narcissusref02_Trees.calls k _ _ l0 t1 _ ?side1 ?side2 A4.out).mono ?_); (case side1 => repeat (first | exact (Kd.C_below HR0.out HB.out) | (with_reducible refine Kd.C_alloc ?_ _) | (with_reducible refine Kd.C_drewN ?_ _) | (with_reducible refine Kd.C_drew ?_))); (case side2 => exact HC0.out); rintro e w' ⟨rfl, ⟨nd, rfl⟩⟩))
   go_meet
   case rel => exact ⟨_, (decide (t1 > 2000000)), (by first | rfl | (simp; done) | (simp [*]; done)), H', ⟨by first | omega | exact Nat.le_refl _⟩, ⟨by repeat (first | (with_reducible first | exact HB.out | apply below_alloc | apply pw_below_drewN | apply below_drew1) | exact HB.out)⟩⟩
 case rest =>
  clear HC2
  try clear c2
  try clear p2
  try clear c3
  try clear c3b0
  try clear c3b1
  obtain ⟨kq, x11_1, rfl, HA, HJ1, HB⟩ := hcut
  cases kq with
  | zero => exact absurd HA.out (by simp [narcissusref02_Valid.j0])
  | succ kj1 =>
   have H := HA.out
   clear HA
   simp only [narcissusref02_Valid.j0] at H
   by_cases c5 : x11_1 = true
   ·subst c5
    have H1 : (some false) = some r := by rw [if_pos rfl] at H; exact H
    clear H
    have H := H1
    clear H1
    obtain rfl := Option.some.inj H
    go_wp2
    go_ret
    exact ⟨by first | rfl | (simp [errW_none, errW_some] <;> rfl) | (simp [*, errW_none, errW_some] <;> rfl), by repeat (first | (with_reducible first | exact HB.out | apply below_alloc | apply pw_below_drewN | apply below_drew1) | exact HB.out)⟩
   ·replace c5 := Bool.eq_false_iff.mpr c5
    subst c5
    have H1 : (narcissusref02_Valid.l0 kj1 l0 0) = some r := by rw [if_neg (show ¬ (false = true) by decide)] at H; exact H
    clear H
    have H := H1
    clear H1
    have H' := Aside0.mk H
    clear H
    go_wp2
    go_loopg [3] kj1 (fun kq v3 w' => ∃ (x3_2 : Int), v3 = .int .i64 x3_2 ∧ Aside0 (narcissusref02_Valid.l0 kq l0 x3_2 = some r) ∧ Aside0 (kq ≤ kj1) ∧ Aside0 (Below w.heap.size w w'))
    case atStart => exact ⟨(0), (by first | rfl | (simp; done) | (simp [*]; done)), H', ⟨Nat.le_refl _⟩, ⟨by repeat (first | (with_reducible first | exact HB.out | apply below_alloc | apply pw_below_drewN | apply below_drew1) | exact HB.out)⟩⟩
    case round =>
     clear H'
     try clear c2
     try clear p2
     try clear c3
     try clear c3b0
     try clear c3b1
     try clear c5
     try clear p2
     obtain ⟨x3_2, rfl, HA, HK2, HB⟩ := hrel
     cases gk with
     | zero => exact absurd HA.out (by simp [narcissusref02_Valid.l0])
     | succ k2 =>
      have H := HA.out
      clear HA
      simp only [narcissusref02_Valid.l0] at H
      by_cases c6 : x3_2 < (l0.length : Int)
      ·rw [if_pos c6] at H
       have c6b0 : decide (x3_2 < (l0.length : Int)) = true := decide_eq_true c6
       clear c6
       by_cases c7 : 0 ≤ x3_2
       ·rw [if_pos c7] at H
        have c7b0 : decide (0 ≤ x3_2) = true := decide_eq_true c7
        clear c7
        replace H := Option.bind_eq_some_iff.mp H
        obtain ⟨t3, A80, H⟩ := H
        replace H : (if t3 = true then (narcissusref02_Valid.l0 k2 l0 (wrap64 (x3_2 + 1))) else (some false)) = some r := H
        have A8 := Aside0.mk A80
        clear A80
        by_cases c9 : t3 = true
        ·subst c9
         have H1 : (narcissusref02_Valid.l0 k2 l0 (wrap64 (x3_2 + 1))) = some r := by rw [if_pos rfl] at H; exact H
         clear H
         have H := H1
         clear H1
         have H' := Aside0.mk H
         clear H
         have p2 : 0 ≤ (x3_2 : Int) := of_decide_eq_true (by first | (with_reducible assumption) | assumption)
         have q2 : x3_2 < (l0.length : Int) := of_decide_eq_true (by first | (with_reducible assumption) | assumption)
         obtain ⟨ad2, e2, hx2_0, hx2_1, hx2_2, hx2_3, hx2_4⟩ := at_T72 HR0.out x3_2 p2 q2
         cases e2
         replace hx2_0 := (HB.out.cell (World.block_lt_of_cell? w _ hx2_0)).trans hx2_0
         replace hx2_1 := (HB.out.cell (World.block_lt_of_cell? w _ hx2_1)).trans hx2_1
         replace hx2_2 := (HB.out.cell (World.block_lt_of_cell? w _ hx2_2)).trans hx2_2
         replace hx2_3 := (HB.out.cell (World.block_lt_of_cell? w _ hx2_3)).trans hx2_3
         replace hx2_4 := (HB.out.cell (World.block_lt_of_cell? w _ hx2_4)).trans hx2_4
         replace p2 := eq_true p2
         replace q2 := eq_true q2
         go_wp2_with (first | ((with_reducible refine gate_callee (f := 48) rfl ?_); refine goesL_ (some 25) rfl rfl Tryz.func48 (by kernel_rfl) rfl #[.agg #[.int .i64 ((rd_T72 l0 x3_2).f0), .int .i64 ((rd_T72 l0 x3_2).f1), .int .i64 ((rd_T72 l0 x3_2).f2), .int .i64 ((rd_T72 l0 x3_2).f3), .string ((rd_T72 l0 x3_2).f4)], .int .i64 x3_2, .int .i64 (l0.length : Int)] rfl (by (try simp only [List.map_toArray, List.map_cons, List.map_nil]); first | done | rfl | (simp only [List.length_drop, List.length_take]; rfl)) ?_; (with_reducible refine (narcissusref02_Right.calls k2 ((rd_T72 l0 x3_2).f0) ((rd_T72 l0 x3_2).f1) ((rd_T72 l0 x3_2).f2) ((rd_T72 l0 x3_2).f3) ((rd_T72 l0 x3_2).f4) x3_2 (l0.length : Int) true _ A8.out).mono ?_); rintro e w10 ⟨rfl, hb⟩; refine ⟨_, rfl, ?_⟩; have n0_ := Aside0.mk (below_step (by repeat (first | (with_reducible first | exact HB.out | apply below_alloc | apply pw_below_drewN | apply below_drew1) | exact HB.out)) hb); clear HB; have HB := n0_; clear n0_; (try clear hb); (try clear hb2); (try clear hk); (try clear hi)))
         go_roundg k2
         case measure => have := HJ1.out; have := HK2.out; omega
         case rel => exact ⟨(wrap64 (x3_2 + 1)), (by first | rfl | (simp; done) | (simp [*]; done)), H', ⟨by have := HJ1.out; have := HK2.out; omega⟩, ⟨by repeat (first | (with_reducible first | exact HB.out | apply below_alloc | apply pw_below_drewN | apply below_drew1) | exact HB.out)⟩⟩
        ·replace c9 := Bool.eq_false_iff.mpr c9
         subst c9
         have H1 : (some false) = some r := by rw [if_neg (show ¬ (false = true) by decide)] at H; exact H
         clear H
         have H := H1
         clear H1
         obtain rfl := Option.some.inj H
         have p2 : 0 ≤ (x3_2 : Int) := of_decide_eq_true (by first | (with_reducible assumption) | assumption)
         have q2 : x3_2 < (l0.length : Int) := of_decide_eq_true (by first | (with_reducible assumption) | assumption)
         obtain ⟨ad2, e2, hx2_0, hx2_1, hx2_2, hx2_3, hx2_4⟩ := at_T72 HR0.out x3_2 p2 q2
         cases e2
         replace hx2_0 := (HB.out.cell (World.block_lt_of_cell? w _ hx2_0)).trans hx2_0
         replace hx2_1 := (HB.out.cell (World.block_lt_of_cell? w _ hx2_1)).trans hx2_1
         replace hx2_2 := (HB.out.cell (World.block_lt_of_cell? w _ hx2_2)).trans hx2_2
         replace hx2_3 := (HB.out.cell (World.block_lt_of_cell? w _ hx2_3)).trans hx2_3
         replace hx2_4 := (HB.out.cell (World.block_lt_of_cell? w _ hx2_4)).trans hx2_4
         replace p2 := eq_true p2
         replace q2 := eq_true q2
         go_wp2_with (first | ((with_reducible refine gate_callee (f := 48) rfl ?_); refine goesL_ (some 25) rfl rfl Tryz.func48 (by kernel_rfl) rfl #[.agg #[.int .i64 ((rd_T72 l0 x3_2).f0), .int .i64 ((rd_T72 l0 x3_2).f1), .int .i64 ((rd_T72 l0 x3_2).f2), .int .i64 ((rd_T72 l0 x3_2).f3), .string ((rd_T72 l0 x3_2).f4)], .int .i64 x3_2, .int .i64 (l0.length : Int)] rfl (by (try simp only [List.map_toArray, List.map_cons, List.map_nil]); first | done | rfl | (simp only [List.length_drop, List.length_take]; rfl)) ?_; (with_reducible refine (narcissusref02_Right.calls k2 ((rd_T72 l0 x3_2).f0) ((rd_T72 l0 x3_2).f1) ((rd_T72 l0 x3_2).f2) ((rd_T72 l0 x3_2).f3) ((rd_T72 l0 x3_2).f4) x3_2 (l0.length : Int) false _ A8.out).mono ?_); rintro e w11 ⟨rfl, hb⟩; refine ⟨_, rfl, ?_⟩; have n0_ := Aside0.mk (below_step (by repeat (first | (with_reducible first | exact HB.out | apply below_alloc | apply pw_below_drewN | apply below_drew1) | exact HB.out)) hb); clear HB; have HB := n0_; clear n0_; (try clear hb); (try clear hb2); (try clear hk); (try clear hi)))
         go_ret
         exact ⟨by first | rfl | (simp [errW_none, errW_some] <;> rfl) | (simp [*, errW_none, errW_some] <;> rfl), by repeat (first | (with_reducible first | exact HB.out | apply below_alloc | apply pw_below_drewN | apply below_drew1) | exact HB.out)⟩
       ·rw [if_neg c7] at H
        exact absurd H (by simp)
      ·rw [if_neg c6] at H
       have c6b0 : decide (x3_2 < (l0.length : Int)) = false := decide_eq_false c6
       clear c6
       obtain rfl := Option.some.inj H
       go_wp2
       go_ret
       exact ⟨by first | rfl | (simp [errW_none, errW_some] <;> rfl) | (simp [*, errW_none, errW_some] <;> rfl), by repeat (first | (with_reducible first | exact HB.out | apply below_alloc | apply pw_below_drewN | apply below_drew1) | exact HB.out)⟩
end Go.Proofs.YtocoamgbpoommaaGreatDoor.C
end
section
namespace Go.Proofs.YtocoamgbpoommaaGreatDoor.Plain
open Go.Proofs.YtocoamgbpoommaaGreatDoor.C
open Go.RowKit Go.Proofs.YtocoamgbpoommaaGreatDoorW.PrintWords Go.Proofs.YtocoamgbpoommaaGreatDoorW.PrintLast Go.Proofs.YtocoamgbpoommaaGreatDoorW.PrintMore
set_option linter.unusedVariables false
set_option linter.unusedSimpArgs false
theorem bt_at (s : ByteArray) (i : Nat) (h : i < (bl s).length) : bt s (i : Int) = (((bl s)[i]).toNat : Int) := by
  have hz : i < s.size := by rw [← bl_len]; exact h
  unfold bt
  rw [dif_pos (by simpa using hz)]
  rfl
theorem byte_eq (c : UInt8) (n : Nat) (hn : n < 256) : ((c.toNat : Int) = (n : Int)) ↔ c = UInt8.ofNat n := by
  constructor
  · intro h
    have h' : c.toNat = n := by omega
    apply UInt8.toNat_inj.1
    rw [h']
    simp
    omega
  · intro h
    rw [h]
    simp
    omega
theorem byte48 (c : UInt8) : ((c.toNat : Int) = 48) ↔ c = 48 := byte_eq c 48 (by decide)
theorem byte49 (c : UInt8) : ((c.toNat : Int) = 49) ↔ c = 49 := byte_eq c 49 (by decide)
theorem refEnd_step (s : ByteArray) (hz : s.size ≤ 2000000) (k p o : Nat) (hlt : p < (bl s).length) (ho : 1 ≤ o) (ho2 : o ≤ 2000002) :
    narcissusref01_End.l0 (k + 2) s (p : Int) (o : Int) = if (bl s)[p] = 48 then narcissusref01_End.l0 k s ((p + 1 : Nat) : Int) ((o - 1 : Nat) : Int) else if (bl s)[p] = 49 then narcissusref01_End.l0 k s ((p + 1 : Nat) : Int) ((o + 1 : Nat) : Int) else some (-1) := by
  have hlt2 : p < s.size := by rw [← bl_len]; exact hlt
  have w1 : wrap64 ((p : Int) + 1) = ((p + 1 : Nat) : Int) := wrap_small (by omega) (by omega)
  have w2 : wrap64 ((o : Int) + 1) = ((o + 1 : Nat) : Int) := wrap_small (by omega) (by omega)
  have w3 : wrap64 ((o : Int) - 1) = ((o - 1 : Nat) : Int) := by rw [show ((o - 1 : Nat) : Int) = (o : Int) - 1 from by omega]; exact wrap_small (by omega) (by omega)
  have hb := bt_at s p hlt
  generalize (bl s)[p] = c at *
  rw [narcissusref01_End.l0, if_pos (by omega), if_neg (by omega), if_pos (by omega), if_pos (by omega), hb]
  have hj : ∀ b, narcissusref01_End.j1 (k + 1) s (p : Int) (o : Int) b = if b = true then some (-1) else if (c.toNat : Int) = 49 then narcissusref01_End.l0 k s ((p + 1 : Nat) : Int) ((o + 1 : Nat) : Int) else narcissusref01_End.l0 k s ((p + 1 : Nat) : Int) ((o - 1 : Nat) : Int) := by
    intro b
    cases b with
    | true => rw [narcissusref01_End.j1, if_pos rfl, if_pos rfl]
    | false =>
      rw [narcissusref01_End.j1]
      simp only [Bool.false_eq_true, if_false]
      rw [if_pos (by omega), if_pos (by omega), hb, w1, w2, w3]
  rw [hj, hj]
  by_cases h48 : c = 48
  · rw [if_pos ((byte48 _).2 h48), if_pos h48, if_neg (by decide), if_neg (by rw [h48]; decide)]
  · rw [if_neg (fun h => h48 ((byte48 _).1 h)), if_neg h48]
    by_cases h49 : c = 49
    · rw [if_neg (by rw [(byte49 _).2 h49]; decide), if_pos ((byte49 _).2 h49), if_pos h49]
    · rw [if_pos (bne_iff_ne.2 (fun h => h49 ((byte49 _).1 h))), if_neg h49]
theorem refEnd_l (s : ByteArray) (hz : s.size ≤ 2000000) : ∀ (d k p o : Nat), s.size - p = d → p ≤ s.size → o ≤ p + 1 → 2 * d + 2 < k →
    narcissusref01_End.l0 k s (p : Int) (o : Int) = some (if o = 0 then (p : Int) else match endL ((bl s).drop p) o p with | some q => (q : Int) | none => -1)
  | d, k, p, o, hd, hp, ho, hk => by
    obtain ⟨k, rfl⟩ : ∃ m, k = m + 2 := ⟨k - 2, by omega⟩
    by_cases h0 : o = 0
    · rw [narcissusref01_End.l0, if_neg (by omega), if_pos h0]
    · rw [if_neg h0]
      by_cases hlt : p < s.size
      · have hlt' : p < (bl s).length := by rw [bl_len]; exact hlt
        have hd2 : (bl s).drop p = (bl s)[p] :: (bl s).drop (p + 1) := List.drop_eq_getElem_cons hlt'
        have i1 := refEnd_l s hz (s.size - (p + 1)) k (p + 1) (o - 1) rfl (by omega) (by omega) (by omega)
        have i2 := refEnd_l s hz (s.size - (p + 1)) k (p + 1) (o + 1) rfl (by omega) (by omega) (by omega)
        rw [refEnd_step s hz k p o hlt' (by omega) (by omega), hd2, i1, i2]
        simp only [endL]
        generalize (bl s)[p] = c at *
        by_cases h48 : c = 48
        · rw [if_pos h48, if_pos h48]
          by_cases h1 : o = 1
          · rw [if_pos (by omega), if_pos h1]
          · rw [if_neg (by omega), if_neg h1]
        · rw [if_neg h48, if_neg h48]
          by_cases h49 : c = 49
          · rw [if_pos h49, if_pos h49, if_neg (by omega)]
          · rw [if_neg h49, if_neg h49]
      · rw [narcissusref01_End.l0, if_pos (by omega), if_pos (by omega), narcissusref01_End.j1, if_pos rfl, List.drop_eq_nil_of_le (by rw [bl_len]; omega)]
        rfl
  termination_by d => d
theorem refValid_tells (s : ByteArray) (k : Nat) (hk : 4000010 ≤ k) : ∃ v, narcissusref01_Valid.f k s = some v ∧ (v = true ↔ ValidT s) := by
  unfold narcissusref01_Valid.f ValidT
  by_cases hz : (s.size : Int) ≤ 2000000
  · rw [if_pos hz]
    unfold narcissusref01_End.f
    have := refEnd_l s (by omega) s.size k 0 1 rfl (by omega) (by omega) (by omega)
    rw [show ((1 : Nat) : Int) = 1 from rfl, show ((0 : Nat) : Int) = 0 from rfl] at this
    rw [this, if_neg (by decide), Option.bind_some, List.drop_zero]
    refine ⟨_, rfl, ?_⟩
    rw [beq_iff_eq, isT_iff, bl_len]
    cases endL (bl s) 1 0 with
    | none => simp
    | some q =>
      simp only [Option.some.injEq]
      omega
  · rw [if_neg hz]
    refine ⟨false, rfl, ?_⟩
    exact ⟨fun h => (by cases h), fun h => by omega⟩
theorem register_tells (n : Int) : ∃ v, narcissusref02_Register.f n = some v ∧ (v = true ↔ Reg n) := by
  unfold narcissusref02_Register.f Reg
  by_cases h : n ≥ 0
  · rw [if_pos h]
    refine ⟨_, rfl, ?_⟩
    rw [decide_eq_true_iff]
    exact ⟨fun h' => ⟨h, h'⟩, fun h' => h'.2⟩
  · rw [if_neg h]
    refine ⟨false, rfl, ?_⟩
    exact ⟨fun h => (by cases h), fun h' => absurd h'.1 h⟩
theorem refRight_tells (x : Ins) (i n : Int) (hi : 0 ≤ i) (hin : i ≤ n) (hn : n ≤ 4000) (k : Nat) (hk : 4000020 ≤ k) :
    ∃ v, narcissusref02_Right.f k x.f0 x.f1 x.f2 x.f3 x.f4 i n = some v ∧ (v = true ↔ Right x i n) := by
  obtain ⟨k, rfl⟩ : ∃ m, k = m + 2 := ⟨k - 2, by omega⟩
  have hw1 : wrap64 (-i) = -i := wrap_small (by omega) (by omega)
  have hw2 : wrap64 (n - i) = n - i := wrap_small (by omega) (by omega)
  have hreg : Right x i n → Reg x.f1 := by
    intro h; unfold Right at h; rcases h with h | h | h | h
    · exact h.2.1
    · exact h.2.1
    · exact h.2.1
    · exact h.2.1
  have hno : ∀ (P : Prop), (Right x i n → P) → ¬ P → ∃ v, some false = some v ∧ (v = true ↔ Right x i n) := fun P h hp => ⟨false, rfl, fun h => (by cases h), fun h' => absurd (h h') hp⟩
  unfold narcissusref02_Right.f
  rw [toL]
  obtain ⟨v1, e1, hv1⟩ := register_tells x.f1
  rw [e1, Option.bind_some]
  cases v1 with
  | false =>
    rw [if_neg (by decide), narcissusref02_Right.j0, if_pos rfl]
    exact hno _ hreg (by simpa using hv1)
  | true =>
    have hr : Reg x.f1 := hv1.1 rfl
    rw [if_pos rfl]
    by_cases h0 : x.f0 = 0
    · rw [if_pos h0, if_neg (by omega), narcissusref02_Right.j0]
      by_cases h3 : x.f3 = 0
      · rw [if_neg (by simp [h3]), if_pos h0]
        by_cases h2 : x.f2 = 0
        · rw [if_pos h2]
          obtain ⟨v, e, hv⟩ := refValid_tells x.f4 (k + 1) (by omega)
          rw [e]
          refine ⟨v, rfl, hv.trans ?_⟩
          constructor
          · intro h; exact .inl ⟨h0, hr, h2, h3, h⟩
          · intro h; unfold Right at h; rcases h with h | h | h | h
            · exact h.2.2.2.2
            · omega
            · omega
            · omega
        · rw [if_neg h2]
          refine hno (x.f2 = 0) ?_ h2
          intro h; unfold Right at h; rcases h with h | h | h | h
          · exact h.2.2.1
          · omega
          · omega
          · omega
      · rw [if_pos (by simp [h3])]
        refine hno (x.f3 = 0) ?_ h3
        intro h; unfold Right at h; rcases h with h | h | h | h
        · exact h.2.2.2.1
        · omega
        · omega
        · omega
    · rw [if_neg h0]
      by_cases ht : bl x.f4 = []
      · rw [if_pos ht]
        by_cases h2 : x.f0 = 2
        · rw [if_pos h2, narcissusref02_Right.j0, if_neg (by decide), if_neg h0, if_neg (by omega), if_neg (by omega), narcissusref02_Right.j1, if_neg (by simp [h2]), if_pos h2]
          obtain ⟨v2, e2, hv2⟩ := register_tells x.f2
          obtain ⟨v3, e3, hv3⟩ := register_tells x.f3
          have hc : Right x i n → Reg x.f2 ∧ Reg x.f3 := by
            intro h; unfold Right at h; rcases h with h | h | h | h
            · omega
            · omega
            · exact ⟨h.2.2.1, h.2.2.2.1⟩
            · omega
          rw [e2, Option.bind_some]
          cases v2 with
          | false => exact hno _ (fun h => (hc h).1) (by simpa using hv2)
          | true =>
            rw [if_pos rfl, e3]
            refine ⟨v3, rfl, hv3.trans ⟨fun h => .inr (.inr (.inl ⟨h2, hr, hv2.1 rfl, h, ht⟩)), fun h => (hc h).2⟩⟩
        · rw [if_neg h2, narcissusref02_Right.j0]
          by_cases h3 : x.f3 = 0
          · rw [if_neg (by simp [h3]), if_neg h0]
            have hj : ∀ b, (b = true ↔ (x.f0 = 1 ∨ x.f0 = 3 ∨ x.f0 = 4)) → ∃ v, narcissusref02_Right.j1 (k + 1) i n x.f0 b x.f0 x.f1 x.f2 x.f3 x.f4 = some v ∧ (v = true ↔ Right x i n) := by
              intro b hb
              rw [narcissusref02_Right.j1]
              cases b with
              | true =>
                have h134 := hb.1 rfl
                rw [if_pos rfl]
                obtain ⟨v, e, hv⟩ := register_tells x.f2
                rw [e]
                refine ⟨v, rfl, hv.trans ?_⟩
                constructor
                · intro h; exact .inr (.inl ⟨h134, hr, h, h3, ht⟩)
                · intro h; unfold Right at h; rcases h with h | h | h | h
                  · omega
                  · exact h.2.2.1
                  · omega
                  · omega
              | false =>
                have h134 : ¬ (x.f0 = 1 ∨ x.f0 = 3 ∨ x.f0 = 4) := fun h => by have := hb.2 h; cases this
                rw [if_neg (by decide), if_neg h2]
                by_cases h5 : x.f0 = 5
                · rw [if_pos h5, hw1, hw2]
                  by_cases hge : x.f2 ≥ -i
                  · rw [if_pos hge]
                    refine ⟨_, rfl, ?_⟩
                    rw [decide_eq_true_iff]
                    constructor
                    · intro h; exact .inr (.inr (.inr ⟨h5, hr, hge, h, h3, ht⟩))
                    · intro h; unfold Right at h; rcases h with h | h | h | h
                      · omega
                      · omega
                      · omega
                      · exact h.2.2.2.1
                  · rw [if_neg hge]
                    refine hno (x.f2 ≥ -i) ?_ hge
                    intro h; unfold Right at h; rcases h with h | h | h | h
                    · omega
                    · omega
                    · omega
                    · exact h.2.2.1
                · rw [if_neg h5]
                  refine hno False ?_ id
                  intro h; unfold Right at h; rcases h with h | h | h | h
                  · omega
                  · exact h134 h.1
                  · omega
                  · omega
            by_cases h1 : x.f0 = 1
            · rw [if_pos h1]
              exact hj _ (by simp [h1])
            · rw [if_neg h1]
              by_cases h33 : x.f0 = 3
              · rw [if_pos h33]
                exact hj _ (by simp [h33])
              · rw [if_neg h33]
                refine hj _ ?_
                rw [beq_iff_eq]
                omega
          · rw [if_pos (by simp [h3])]
            refine hno False ?_ id
            intro h; unfold Right at h; rcases h with h | h | h | h
            · omega
            · exact h3 h.2.2.2.1
            · omega
            · exact h3 h.2.2.2.2.1
      · rw [if_neg ht, narcissusref02_Right.j0, if_pos rfl]
        refine hno False ?_ id
        intro h; unfold Right at h; rcases h with h | h | h | h
        · exact h0 h.1
        · exact ht h.2.2.2.2
        · exact ht h.2.2.2.2
        · exact ht h.2.2.2.2.2
def Fits (p : List Ins) : Prop := ∀ x ∈ p, x.f4.size ≤ 140737488355328
theorem trees_l (p : List Ins) (hp : p.length ≤ 4000) (hf : Fits p) : ∀ (d k i s : Nat), p.length - i = d → i ≤ p.length → s ≤ i * 140737488355328 → d < k →
    narcissusref02_Trees.l0 k p (s : Int) (i : Int) = some ((s + sizes (p.drop i) : Nat) : Int)
  | d, k, i, s, hd, hi, hs, hk => by
    obtain ⟨k, rfl⟩ : ∃ m, k = m + 1 := ⟨k - 1, by omega⟩
    by_cases hlt : i < p.length
    · have hdrop : p.drop i = p[i] :: p.drop (i + 1) := List.drop_eq_getElem_cons hlt
      have hx := hf p[i] (List.getElem_mem hlt)
      have hb : i * 140737488355328 ≤ 4000 * 140737488355328 := Nat.mul_le_mul_right _ (by omega)
      have hsum : sizes (p.drop i) = p[i].f4.size + sizes (p.drop (i + 1)) := by unfold sizes; rw [hdrop, List.map_cons, List.sum_cons]
      rw [narcissusref02_Trees.l0, if_pos (by omega), if_pos (by omega), rd_at p i hlt, hsum, wrap_small (by omega) (by omega), wrap_small (by omega) (by omega), show (i : Int) + 1 = ((i + 1 : Nat) : Int) from rfl, show (s : Int) + (p[i].f4.size : Int) = ((s + p[i].f4.size : Nat) : Int) from rfl]
      rw [trees_l p hp hf (p.length - (i + 1)) k (i + 1) _ rfl (by omega) (by omega) (by omega)]
      congr 2
      omega
    · rw [narcissusref02_Trees.l0, if_neg (by omega), List.drop_eq_nil_of_le (by omega)]
      simp [sizes]
  termination_by d => d
theorem refValid_l (p : List Ins) (hp : p.length ≤ 4000) : ∀ (d k i : Nat), p.length - i = d → i ≤ p.length → d + 4000030 < k →
    ∃ v, narcissusref02_Valid.l0 k p (i : Int) = some v ∧ (v = true ↔ ∀ j, i ≤ j → j < p.length → Right (rd_T72 p (j : Int)) j p.length)
  | d, k, i, hd, hi, hk => by
    obtain ⟨k, rfl⟩ : ∃ m, k = m + 1 := ⟨k - 1, by omega⟩
    by_cases hlt : i < p.length
    · rw [narcissusref02_Valid.l0, if_pos (by omega), if_pos (by omega)]
      obtain ⟨v, e, hv⟩ := refRight_tells (rd_T72 p (i : Int)) (i : Int) (p.length : Int) (by omega) (by omega) (by omega) k (by omega)
      rw [e, Option.bind_some]
      cases v with
      | false =>
        refine ⟨false, rfl, fun h => (by cases h), fun h => ?_⟩
        exact hv.2 (h i (Nat.le_refl _) hlt)
      | true =>
        rw [if_pos rfl, wrap_small (by omega) (by omega), show (i : Int) + 1 = ((i + 1 : Nat) : Int) from rfl]
        obtain ⟨v, e, hv'⟩ := refValid_l p hp (p.length - (i + 1)) k (i + 1) rfl (by omega) (by omega)
        refine ⟨v, e, hv'.trans ⟨fun h2 j h3 h4 => ?_, fun h2 j h3 h4 => h2 j (by omega) h4⟩⟩
        by_cases hji : j = i
        · subst hji; exact hv.1 rfl
        · exact h2 j (by omega) h4
    · rw [narcissusref02_Valid.l0, if_neg (by omega)]
      exact ⟨true, rfl, fun _ j h1 h2 => by omega, fun _ => rfl⟩
  termination_by d => d
theorem refValidp_tells (p : List Ins) (hf : Fits p) (k : Nat) (hk : 4010000 ≤ k) : ∃ v, narcissusref02_Valid.f k p = some v ∧ (v = true ↔ OKP p) := by
  obtain ⟨k, rfl⟩ : ∃ m, k = m + 1 := ⟨k - 1, by omega⟩
  unfold narcissusref02_Valid.f
  by_cases h : (p.length : Int) > 4000
  · rw [if_pos h, narcissusref02_Valid.j0, if_pos rfl]
    exact ⟨false, rfl, fun h => (by cases h), fun h' => by have := h'.1; omega⟩
  · rw [if_neg h]
    have ht := trees_l p (by omega) hf p.length (k + 1) 0 0 rfl (by omega) (by omega) (by omega)
    rw [show ((0 : Nat) : Int) = 0 from rfl, List.drop_zero, Nat.zero_add] at ht
    unfold narcissusref02_Trees.f
    rw [ht, Option.bind_some, narcissusref02_Valid.j0]
    by_cases hb : ((sizes p : Nat) : Int) > 2000000
    · rw [if_pos (decide_eq_true hb)]
      exact ⟨false, rfl, fun h => (by cases h), fun h' => by have h2 : sizes p ≤ 2000000 := h'.2.1; omega⟩
    · rw [if_neg (by simpa using hb)]
      obtain ⟨v, e, hv⟩ := refValid_l p (by omega) p.length k 0 rfl (by omega) (by omega)
      refine ⟨v, e, hv.trans ⟨fun h2 => ⟨by omega, by show sizes p ≤ 2000000; omega, fun j hj => h2 j (by omega) hj⟩, fun h2 j _ hj => h2.2.2 j hj⟩⟩
theorem refValidp_yes {p : List Ins} {k : Nat} (hf : Fits p) (hk : 4010000 ≤ k) (h : OKP p) : narcissusref02_Valid.f k p = some true := by
  obtain ⟨v, e, hv⟩ := refValidp_tells p hf k hk
  rw [e, hv.2 h]
theorem okp_fits {p : List Ins} (h : OKP p) : Fits p := fun x hx => by have := okp_small h x hx; omega
end Go.Proofs.YtocoamgbpoommaaGreatDoor.Plain
end
section
namespace Go.Proofs.YtocoamgbpoommaaGreatDoor.C
open Go.RowKit Go.Proofs.YtocoamgbpoommaaGreatDoorW.PrintWords Go.Proofs.YtocoamgbpoommaaGreatDoorW.PrintLast Go.Proofs.YtocoamgbpoommaaGreatDoorW.PrintMore
set_option linter.unusedVariables false
set_option linter.unusedSimpArgs false
theorem infoU8n : (Tryz.prog.info? 5).map (fun i => (i.zero, i.size, i.bytes)) = some (some (.int .u8 0), 1, 1) := by kernel_rfl
def rep10 : Nat → List Int
  | 0 => []
  | n + 1 => rep10 n ++ [49, 48]
def narcissusref01_Number.f (a0 : Int) : Option ByteArray := if 0 ≤ a0 ∧ a0 ≤ 1000000000 then some (strOfNums (rep10 a0.toNat ++ [48])) else none
set_option maxHeartbeats 1000000 in
set_option maxRecDepth 100000 in
theorem narcissusref01_Number.calls (a0 : Int) (r : ByteArray) (w : World) (h : narcissusref01_Number.f a0 = some r) :
    Calls Tryz.prog 103 #[.int .i64 a0] w fun e w' => e = .returned (.string r) ∧ Below w.heap.size w w' := by
  unfold narcissusref01_Number.f at h
  split at h
  case isFalse => cases h
  case isTrue hc =>
  obtain ⟨h0, h1⟩ := hc
  obtain ⟨n, rfl⟩ := Int.eq_ofNat_of_zero_le h0
  obtain rfl := Option.some.inj h
  rw [Int.toNat_natCast]
  obtain ⟨i0, hi, hz0, hz1, hz2⟩ := info_parts infoU8n
  have hn : n ≤ 1000000000 := by omega
  obtain ⟨w1, hmk0, hown0, hg0⟩ := run_make_own w w.heap.size 94 5 i0 (.int .u8 0) 1 Tryz.underlying94 hi hz0 hz1 .i64 .i64 (2 * n + 1) (by rw [hz2]; omega) (by unfold maxLen; omega) (Nat.le_refl _)
  have hmk : (Instr.makeSlice 94 (.int .i64 0) (.int .i64 (2 * (n : Int) + 1))).run Tryz.prog w = .ok (.slice (some ⟨w.heap.size, 0, none⟩) 0 (2 * n + 1)) w1 := by
    rw [← hmk0]; congr 2
  have HOW := Aside0.mk hown0
  have HG := Aside0.mk hg0
  clear hmk0 hown0 hg0
  go_enter Tryz.func103, Tryz.ntmps103
  go_wp2
  clear hmk
  go_loopw [3, 4] (fun v i wr => ∃ k : Nat, k ≤ n ∧ i = .int .i64 k ∧ Aside0 (wr.ownsRow w.heap.size 5 1 v (2 * k) (nums .u8 (rep10 k))) ∧ Aside0 (Below w.heap.size w wr)) (fun _ i _ => n - (intOf i).toNat)
  case atStart => exact ⟨0, Nat.zero_le _, rfl, ⟨HOW.out⟩, ⟨(Below.refl _ _).grown HG.out (Nat.le_refl _) (by intro k hk; cases hk)⟩⟩
  case round =>
    clear HOW HG
    obtain ⟨k, hk, rfl, HO, HB⟩ := hrel
    by_cases hlt : k < n
    · go_wp2_with (at_builtin; refine wpList_append_own _ rfl _ _ 94 rfl w.heap.size 5 i0 (.int .u8 0) 1 1 Tryz.underlying94 hi hz0 hz1 hz2 rfl (by decide) _ (2 * k) _ rfl (HO.out.alloc _) ⟨wr.heap.size, 0, none⟩ 2 2 [.int .u8 49, .int .u8 48] rfl rfl ?c1 ?c2 ?c3 ?c4 ?c5 ?_)
      case c1 =>
        intro j u hj
        match j, hj with
        | 0, hj => simp at hj; subst hj; simp [Addr.add]
        | 1, hj => simp at hj; subst hj; simp [Addr.add]
      case c2 => intro u hu; simp at hu; rcases hu with rfl | rfl <;> rfl
      case c3 => unfold maxLen; omega
      case c4 => omega
      case c5 => have := HB.out.size; simp; omega
      intro v' w2 hown' hgrow _
      have HO' := Aside0.mk hown'
      have HG' := Aside0.mk hgrow
      clear hown' hgrow
      go_wp2
      go_roundw
      case rel =>
        refine ⟨k + 1, by omega, by go_num, ⟨?_⟩, ⟨(HB.out.alloc HB.out.size _).grown HG'.out (by have := HB.out.size; simp; omega) (own_base HO.out)⟩⟩
        have e := HO'.out
        rw [show 2 * (k + 1) = 2 * k + 2 from by omega, rep10, nums_append]
        exact e
      case measure => simp [intOf]; omega
    · obtain rfl : k = n := by omega
      go_wp2_with (at_builtin; refine wpList_append_own _ rfl _ _ 94 rfl w.heap.size 5 i0 (.int .u8 0) 1 1 Tryz.underlying94 hi hz0 hz1 hz2 rfl (by decide) _ (2 * k) _ rfl (HO.out.alloc _) ⟨wr.heap.size, 0, none⟩ 1 1 [.int .u8 48] rfl rfl ?c1 ?c2 ?c3 ?c4 ?c5 ?_)
      case c1 =>
        intro j u hj
        match j, hj with
        | 0, hj => simp at hj; subst hj; simp [Addr.add]
      case c2 => intro u hu; simp at hu; subst hu; rfl
      case c3 => unfold maxLen; omega
      case c4 => omega
      case c5 => have := HB.out.size; simp; omega
      intro v' w2 hown' hgrow _
      have hcv := own_string (P := Tryz.prog) (n := 2 * k + 1) (xs := rep10 k ++ [48]) Tryz.underlying94 Tryz.underlying5 Tryz.underlying9 (by rw [nums_append]; exact hown')
      have HG' := Aside0.mk hgrow
      clear hown' hgrow
      go_wp2
      go_ret
      exact ⟨rfl, (HB.out.alloc HB.out.size _).grown HG'.out (by have := HB.out.size; simp; omega) (own_base HO.out)⟩
theorem step_append_str {P : Program} {ops : Array Oper} {o : Oper} {a : Act} {K : Act → World → Prop} {Q : Exit → Act → World → Prop} {E : Prop} {w : World} (hgd : o.guard = none) (sl x : Operand) (t u : TypeId)
    (ho : o.op = .call { callee := .builtin .append, args := #[sl, x], argTypes := #[t, u] })
    (base : Nat) (e : TypeId) (i : TypeInfo) (ht : P.underlying t = some (.slice e)) (hu : P.underlying u = some .string) (hi : P.info? e = some i) (hz : i.zero = some (.int .u8 0))
    (hsize : i.size = 1) (hby : i.bytes = 1)
    (v : Value) (n : Nat) (xs : List Value) (hs : a.eval sl = v) (hown : w.ownsRow base e 1 v n xs) (s : ByteArray) (hx : a.eval x = .string s)
    (h63 : n + s.size ≤ maxLen) (hbytes : n + s.size ≤ 140737488355328) (hbase : base ≤ w.heap.size)
    (h : ∀ v' w', w'.ownsRow base e 1 v' (n + s.size) (xs ++ Lib.strCells s) → w.grownBy w' v.ownBlock → (v' = .slice none 0 0 ↔ v = .slice none 0 0 ∧ s.size = 0) → K (a.put o.dst v') w') :
    if Region.wanted o (yielded ops a.tmps) = true then Oper.wp P o a w K Q else E := by
  have hw : Region.wanted o (yielded ops a.tmps) = true := by simp [Region.wanted, hgd]
  rw [if_pos hw]
  obtain ⟨v', w', hr, h2, h3, h4⟩ := Lib.run_append_own_string (P := P) w base t u o.type e i ht hu hi hz hsize hby v n xs hown s h63 hbytes hbase
  unfold Oper.wp execOp
  simp only [ho, resolve, invoke, builtin, Sem.run_bind, Sem.run_pure, Result.andThen_ok, List.map_toArray, List.map_cons, List.map_nil, hs, hx, hr]
  exact h v' w' h2 h3 h4
def narcissusref01_List.l : Nat → List ByteArray → List Int → Int → Option ByteArray
  | 0, _, _, _ => none
  | k + 1, l0, xs, i => if i < (l0.length : Int) then (if xs.length + 1 + (rdOf ByteArray.empty l0 i).size ≤ 140737488355327 then narcissusref01_List.l k l0 (xs ++ [49] ++ bytesOf (rdOf ByteArray.empty l0 i)) (i + 1) else none) else if xs.length + 1 ≤ 140737488355328 then some (strOfNums (xs ++ [48])) else none
def narcissusref01_List.f (k : Nat) (l0 : List ByteArray) : Option ByteArray := narcissusref01_List.l k l0 [] 0
set_option maxHeartbeats 1000000 in
set_option maxRecDepth 100000 in
theorem narcissusref01_List.calls (k : Nat) (A0 : Option Addr) (c0 : Nat) (l0 : List ByteArray) (r : ByteArray) (w : World) (hr0 : Kd.C Kd.string w A0 l0.length l0) (hc0 : l0.length ≤ c0) (h : narcissusref01_List.f k l0 = some r) :
    Calls Tryz.prog 57 #[.slice A0 l0.length c0] w fun e w' => e = .returned (.string r) ∧ Below w.heap.size w w' := by
  have HH := Aside0.mk h
  have HR0 := Aside0.mk hr0
  have HC0 := Aside0.mk hc0
  have hlm : l0.length ≤ 9223372036854775807 := hr0.2.1
  clear h hr0 hc0
  unfold narcissusref01_List.f at HH
  obtain ⟨i0, hi, hz0, hz1, hz2⟩ := info_parts infoU8n
  go_enter Tryz.func57, Tryz.ntmps57
  go_wp2
  go_loopg [3, 4] k (fun kq v3 v4 wr => ∃ (xs : List Int) (i : Nat), v4 = .int .i64 i ∧ Aside0 (i ≤ l0.length) ∧ Aside0 (narcissusref01_List.l kq l0 xs i = some r) ∧ Aside0 (wr.ownsRow w.heap.size 5 1 v3 xs.length (nums .u8 xs)) ∧ Aside0 (Below w.heap.size w wr))
  case atStart => exact ⟨[], 0, rfl, ⟨Nat.zero_le _⟩, HH, ⟨own_nil _ _ _ _⟩, ⟨Below.refl _ _⟩⟩
  case round =>
    clear HH
    obtain ⟨xs, i, rfl, HI, HA, HO, HB⟩ := hrel
    cases gk with
    | zero => exact absurd HA.out (by simp [narcissusref01_List.l])
    | succ k2 =>
      have H := HA.out
      clear HA
      rw [narcissusref01_List.l] at H
      by_cases hlt : (i : Int) < (l0.length : Int)
      · rw [if_pos hlt] at H
        have hltn : i < l0.length := by omega
        obtain ⟨ad, eA, hcell⟩ := Kd.at_string HR0.out (i : Int) (by omega) (by omega)
        subst eA
        rw [Int.toNat_natCast] at hcell
        have hblt := World.block_lt_of_cell? w _ hcell
        replace hcell := (HB.out.cell hblt).trans hcell
        generalize rdOf ByteArray.empty l0 (i : Int) = s at *
        by_cases hlim : xs.length + 1 + s.size ≤ 140737488355327
        · rw [if_pos hlim] at H
          have HN := Aside0.mk H
          have HLM := Aside0.mk hlim
          have hbw := HB.out.size
          have HM1 := Aside0.mk (show xs.length + 1 ≤ maxLen by unfold maxLen; omega)
          have HM2 := Aside0.mk (show (xs.length + 1) * 1 ≤ 140737488355328 by omega)
          have HM3 := Aside0.mk (show xs.length + 1 + s.size ≤ maxLen by unfold maxLen; omega)
          have HM4 := Aside0.mk (show xs.length + 1 + s.size ≤ 140737488355328 by omega)
          have HNE : Aside0 (u3.ownBlock ≠ some (ad.add i).block) := ⟨fun e => by have := own_base HO.out _ e; omega⟩
          clear H hlim
          go_wp2_with fail
          go_region_held3 (fun w' => w'.cell? (ad.add i) = some (.string s))
            (first
              | go_keep
              | (have hne1 : u3.ownBlock ≠ some (ad.add i).block := HNE.out
                 rw [hgrow1.cell_far _ (by simp; omega) (Ne.symm hne1)]; assumption)
              | (rw [hgrow2.cell_far _ (by have := hgrow1.size; simp at this; omega) (by intro e; have := own_base hown1 _ e.symm; omega)]; assumption))
            (first
              | ((refine step_append_lies _ (by rfl) _ _ _ (by rfl) w.heap.size 5 i0 _ 1 1 Tryz.underlying94 hi hz0 hz1 hz2 rfl (by omega) _ xs.length (nums .u8 xs) (by rfl) ((HO.out.alloc _).drew)
                      ⟨wr.heap.size, 0, none⟩ 1 1 [.int .u8 49] (by rfl) (by rfl) (World.news_of_block (cs := #[.int .u8 49]) (t := 5) (fr := (0, 0)) (heap_alloc_new wr _)) (by simp [Value.oneCell'])
                      (by omega) HM1.out HM2.out (by simp; omega) (wr.heap.size + 1) (by simp) ?_; intro gg cap w1 hown1 hgrow1 hat1 hlt1))
              | ((refine step_append_str (by rfl) _ _ _ _ (by rfl) w.heap.size 5 i0 Tryz.underlying94 Tryz.underlying9 hi hz0 hz1 hz2 _ _ _ (by rfl) hown1 s (by rfl) HM3.out HM4.out (Nat.le_trans (by simp; omega) hgrow1.size) ?_; intro v2 w2 hown2 hgrow2 hat2)))
          have HO2 := Aside0.mk hown2
          have HB2 : Aside0 (Below w.heap.size w w2) := ⟨(((HB.out.alloc HB.out.size _).drew).grown hgrow1 (by simp; omega) (own_base HO.out)).grown hgrow2 (by have := hgrow1.size; simp at this; omega) (own_base hown1)⟩
          clear hgrow1 hgrow2 hown1 hown2 hat1 hat2 hlt1
          go_wp2
          go_roundg k2
          case measure => omega
          case rel =>
            refine ⟨xs ++ [49] ++ bytesOf s, i + 1, by go_num, ⟨by omega⟩, ?_, ⟨?_⟩, HB2⟩
            · rw [show ((i + 1 : Nat) : Int) = (i : Int) + 1 from rfl]; exact HN
            · have e := HO2.out
              have e2 : (xs ++ [49] ++ bytesOf s).length = xs.length + 1 + s.size := by rw [List.length_append, List.length_append, bytesOf_length]; rfl
              rw [e2, nums_append, nums_append]
              have e3 : nums .u8 (bytesOf s) = Lib.strCells s := by simp [nums, bytesOf, Lib.strCells]
              rw [e3]
              exact e
        · rw [if_neg hlim] at H
          cases H
      · rw [if_neg hlt] at H
        by_cases hl9 : xs.length + 1 ≤ 140737488355328
        · rw [if_pos hl9] at H
          obtain rfl := Option.some.inj H
          have t1 : decide ((i : Int) < (l0.length : Int)) = false := decide_eq_false hlt
          have t2 : decide (i < l0.length) = false := decide_eq_false (by omega)
          clear H hlt
          go_wp2_with (at_builtin; refine wpList_append_own _ rfl _ _ 94 rfl w.heap.size 5 i0 (.int .u8 0) 1 1 Tryz.underlying94 hi hz0 hz1 hz2 rfl (by decide) _ xs.length _ rfl (HO.out.alloc _) ⟨wr.heap.size, 0, none⟩ 1 1 [.int .u8 48] rfl rfl ?z1 ?z2 ?z3 ?z4 ?z5 ?_)
          case z1 =>
            intro j u hj
            match j, hj with
            | 0, hj => simp at hj; subst hj; simp [Addr.add]
          case z2 => intro u hu; simp at hu; subst hu; rfl
          case z3 => unfold maxLen; omega
          case z4 => omega
          case z5 => have := HB.out.size; simp; omega
          intro v' w2 hown' hgrow _
          have hcv := own_string (P := Tryz.prog) (n := xs.length + 1) (xs := xs ++ [48]) Tryz.underlying94 Tryz.underlying5 Tryz.underlying9 (by rw [nums_append]; exact hown')
          have HG' := Aside0.mk hgrow
          clear hown' hgrow
          go_wp2
          go_ret
          exact ⟨rfl, (HB.out.alloc HB.out.size _).grown HG'.out (by have := HB.out.size; simp; omega) (own_base HO.out)⟩
        · rw [if_neg hl9] at H
          cases H
end Go.Proofs.YtocoamgbpoommaaGreatDoor.C
end
section
namespace Go.Proofs.YtocoamgbpoommaaGreatDoor.C
open Go.RowKit Go.Proofs.YtocoamgbpoommaaGreatDoorW.PrintWords Go.Proofs.YtocoamgbpoommaaGreatDoorW.PrintLast Go.Proofs.YtocoamgbpoommaaGreatDoorW.PrintMore
attribute [local go_sem] max2_int min2_int max_two min_two max_three min_three max_four min_four
set_option linter.unusedVariables false
set_option linter.unusedSimpArgs false
def narcissusref02_pair.f (a0 : ByteArray) (a1 : ByteArray) : Option (ByteArray) := if 1 + a0.size ≤ 9223372036854775807 then (if ((⟨#[49]⟩ : ByteArray) ++ a0).size + a1.size ≤ 9223372036854775807 then (some (((⟨#[49]⟩ : ByteArray) ++ a0) ++ a1)) else (none)) else (none)
set_option maxHeartbeats 8000000 in
set_option maxRecDepth 100000 in
theorem narcissusref02_pair.calls (a0 : ByteArray) (a1 : ByteArray) (r : ByteArray) (w : World) (h : narcissusref02_pair.f a0 a1 = some r) :
  Calls Tryz.prog 104 #[.string a0, .string a1] w fun e w' => e = .returned (.string r) ∧ Drawn0 w w' := by
 have H : (if 1 + a0.size ≤ 9223372036854775807 then (if ((⟨#[49]⟩ : ByteArray) ++ a0).size + a1.size ≤ 9223372036854775807 then (some (((⟨#[49]⟩ : ByteArray) ++ a0) ++ a1)) else (none)) else (none)) = some r := h
 clear h
 by_cases c3 : 1 + a0.size ≤ 9223372036854775807
 ·rw [if_pos c3] at H
  have c3b0 := eq_true c3
  have c3b1 : decide (1 + a0.size ≤ 9223372036854775807) = true := decide_eq_true c3
  try have c3b2 : (9223372036854775807 < 1 + a0.size) = False := eq_false (Nat.not_lt.2 c3)
  by_cases c4 : ((⟨#[49]⟩ : ByteArray) ++ a0).size + a1.size ≤ 9223372036854775807
  ·rw [if_pos c4] at H
   have c4b0 := eq_true c4
   have c4b1 : decide (((⟨#[49]⟩ : ByteArray) ++ a0).size + a1.size ≤ 9223372036854775807) = true := decide_eq_true c4
   try have c4b2 : (9223372036854775807 < ((⟨#[49]⟩ : ByteArray) ++ a0).size + a1.size) = False := eq_false (Nat.not_lt.2 c4)
   try (have c4b3 := c4b2; simp only [ByteArray.size_append, lit_size, List.size_toArray, List.length_cons, List.length_nil, Nat.zero_add, Nat.reduceAdd] at c4b3)
   obtain rfl := Option.some.inj H
   go_enter Tryz.func104, Tryz.ntmps104
   go_wp2
   go_ret
   exact ⟨by first | rfl | (simp; done) | (simp [*]; done) | (simp [show ∀ l : List UInt8, (l != []) = !l.isEmpty from fun l => by cases l <;> rfl]; done), by repeat (first | exact Drawn0.refl _ | apply Drawn0.step)⟩
  ·rw [if_neg c4] at H
   exact absurd H (by simp)
 ·rw [if_neg c3] at H
  exact absurd H (by simp)
end Go.Proofs.YtocoamgbpoommaaGreatDoor.C
end
