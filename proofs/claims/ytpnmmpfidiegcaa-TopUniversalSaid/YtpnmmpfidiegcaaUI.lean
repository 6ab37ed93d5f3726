/- Texts of this claim, together: what the functions return, and what they say in plain words. -/
import Derived.Test.YtpnmmpfidiegcaaUC
import Derived.Test.YtpnmmpfidiegcaaUD
import Derived.Test.YtpnmmpfidiegcaaUB
import Derived.Test.YtpnmmpfidiegcaaUE
import Derived.Test.YtpnmmpfidiegcaaUH
import Derived.ChangeKeysEq
import Derived.LaidEql
section
namespace Go.Proofs.Ytpnmmpfidiegcaa.Plain
open Go.Proofs.Ytpnmmpfidiegcaa.C
set_option linter.unusedVariables false
set_option linter.unusedSimpArgs false
theorem numT_size : ∀ n, (numT n).size = 2 * n + 1
  | 0 => rfl
  | n + 1 => by
    show 1 + 1 + (numT n).size = _
    rw [numT_size n]; omega
theorem dec_bl_size {s : ByteArray} (h : ValidT s) : (dec (bl s)).size = s.size := by rw [← Tr.enc_length, enc_dec h.2]; exact bl_len s
theorem itemT_bound {x : Ins} {i n : Int} {M : Nat} (h : Right x i n) (hi : i ≤ (M : Int)) (hn : n - i ≤ (M : Int)) : (itemT x).size ≤ 300 + 2 * M + x.f4.size := by
  have e : (itemT x).size = 1 + (numT x.f0.toNat).size + (bodyT x).size := rfl
  rw [e, numT_size]
  unfold bodyT
  unfold Right Reg at h
  rcases h with ⟨h0, h1, h2, h3, h4⟩ | ⟨h0, h1, h2, h3, h4⟩ | ⟨h0, h1, h2, h3, h4⟩ | ⟨h0, h1, h2, h3, h4, h5⟩
  · rw [if_pos h0]
    show _ + (1 + (numT x.f1.toNat).size + (dec (bl x.f4)).size) ≤ _
    rw [numT_size, dec_bl_size h4]
    omega
  · rw [if_neg (by omega), if_neg (by omega), if_neg (by omega)]
    show _ + (1 + (numT x.f1.toNat).size + (numT x.f2.toNat).size) ≤ _
    rw [numT_size, numT_size]
    omega
  · rw [if_neg (by omega), if_pos h0]
    show _ + (1 + (numT x.f1.toNat).size + (1 + (numT x.f2.toNat).size + (numT x.f3.toNat).size)) ≤ _
    rw [numT_size, numT_size, numT_size]
    omega
  · rw [if_neg (by omega), if_neg (by omega), if_pos h0]
    split
    · show _ + (1 + (numT x.f1.toNat).size + (1 + 3 + (numT (-x.f2).toNat).size)) ≤ _
      rw [numT_size, numT_size]
      omega
    · show _ + (1 + (numT x.f1.toNat).size + (1 + 1 + (numT x.f2.toNat).size)) ≤ _
      rw [numT_size, numT_size]
      omega
theorem lstT_bound (b : Nat) : ∀ l : List Ins, (∀ x ∈ l, (itemT x).size ≤ b + x.f4.size) → (lstT (l.map itemT)).size ≤ l.length * (b + 1) + sizes l + 1
  | [], _ => by simp [lstT, Tr.size]
  | x :: l, h => by
    have ih := lstT_bound b l fun y hy => h y (List.mem_cons_of_mem _ hy)
    have h1 := h x List.mem_cons_self
    have e : (lstT ((x :: l).map itemT)).size = 1 + (itemT x).size + (lstT (l.map itemT)).size := rfl
    have es : sizes (x :: l) = x.f4.size + sizes l := by unfold sizes; simp
    rw [e, es, List.length_cons, Nat.succ_mul]
    omega
theorem codeT_bound {p : List Ins} (h : OKP p) : (codeT p).size ≤ p.length * (301 + 2 * p.length) + sizes p + 1 := by
  have := lstT_bound (300 + 2 * p.length) p fun x hx => by
    obtain ⟨j, hj, rfl⟩ := List.mem_iff_getElem.1 hx
    exact itemT_bound ((okp_iff.1 h).2.2 j hj) (by omega) (by omega)
  have e : 300 + 2 * p.length + 1 = 301 + 2 * p.length := by omega
  rw [e] at this
  exact this
end Go.Proofs.Ytpnmmpfidiegcaa.Plain
end
section
namespace Go.Proofs.Ytpnmmpfidiegcaa.C
open Go.RowKit Go.Proofs.YtpnmmpfidiegcaaW.PrintWords Go.Proofs.YtpnmmpfidiegcaaW.PrintLast Go.Proofs.YtpnmmpfidiegcaaW.PrintMore
attribute [local go_sem] max2_int min2_int max_two min_two max_three min_three max_four min_four
set_option linter.unusedVariables false
set_option linter.unusedSimpArgs false
def narcissustop_regs.l0 : Nat → List (S52) → Int → Int → Option (Int)
 | 0, _, _, _ => none
 | k + 1, x0, x3, x4 => if x4 < (x0.length : Int) then (if 0 ≤ x4 then (if ((rd_T52 x0 x4).f0) = 5 then (narcissustop_regs.l0 k x0 (mx x3 ((rd_T52 x0 x4).f1)) (wrap64 (x4 + 1))) else (narcissustop_regs.l0 k x0 (mx (mx (mx x3 ((rd_T52 x0 x4).f1)) ((rd_T52 x0 x4).f2)) ((rd_T52 x0 x4).f3)) (wrap64 (x4 + 1)))) else (none)) else (some (wrap64 (x3 + 1)))
def narcissustop_regs.f (k : Nat) (l0 : List (S52)) : Option (Int) := narcissustop_regs.l0 k l0 0 0
set_option maxHeartbeats 8000000 in
set_option maxRecDepth 100000 in
theorem narcissustop_regs.calls (k : Nat) (A0 : Option Addr) (c0 : Nat) (l0 : List (S52)) (r : Int) (w : World) (hr0 : Kd.C k52 w A0 l0.length l0) (hc0 : l0.length ≤ c0) (h : narcissustop_regs.f k l0 = some r) :
  Calls Try.prog 38 #[.slice A0 l0.length c0] w fun e w' => e = .returned (.int .i64 r) ∧ Below w.heap.size w w' := by
 have HR0 := Aside0.mk hr0
 have HC0 := Aside0.mk hc0
 clear hr0 hc0
 have HB := Aside0.mk (Below.refl w.heap.size w)
 have H : (narcissustop_regs.l0 k l0 0 0) = some r := h
 clear h
 have H' := Aside0.mk H
 clear H
 go_enter Try.func38, Try.ntmps38
 go_wp2
 repeat (go_quiet (fail); try go_wp2)
 go_loopg [3, 4] k (fun kq v3 v4 w' => ∃ (x3_1 : Int) (x4_1 : Int), v3 = .int .i64 x3_1 ∧ v4 = .int .i64 x4_1 ∧ Aside0 (narcissustop_regs.l0 kq l0 x3_1 x4_1 = some r) ∧ Aside0 (kq ≤ k) ∧ Aside0 (Below w.heap.size w w'))
 case atStart => exact ⟨(0), (0), (by first | rfl | (simp; done) | (simp [*]; done)), (by first | rfl | (simp; done) | (simp [*]; done)), H', ⟨Nat.le_refl _⟩, ⟨by repeat (first | (with_reducible first | exact HB.out | apply below_alloc | apply pw_below_drewN | apply below_drew1) | exact HB.out)⟩⟩
 case round =>
  clear H'
  obtain ⟨x3_1, x4_1, rfl, rfl, HA, HK1, HB⟩ := hrel
  cases gk with
  | zero => exact absurd HA.out (by simp [narcissustop_regs.l0])
  | succ k1 =>
   have H := HA.out
   clear HA
   simp only [narcissustop_regs.l0] at H
   by_cases c2 : x4_1 < (l0.length : Int)
   ·rw [if_pos c2] at H
    have c2b0 : decide (x4_1 < (l0.length : Int)) = true := decide_eq_true c2
    clear c2
    by_cases c3 : 0 ≤ x4_1
    ·rw [if_pos c3] at H
     have c3b0 : decide (0 ≤ x4_1) = true := decide_eq_true c3
     clear c3
     obtain ⟨ji4, hji4⟩ : ∃ j_ : Int, (mx x3_1 ((rd_T52 l0 x4_1).f1)) = j_ := ⟨_, rfl⟩
     replace H : (if ((rd_T52 l0 x4_1).f0) = 5 then (narcissustop_regs.l0 k1 l0 ji4 (wrap64 (x4_1 + 1))) else (narcissustop_regs.l0 k1 l0 (mx (mx (ji4) ((rd_T52 l0 x4_1).f2)) ((rd_T52 l0 x4_1).f3)) (wrap64 (x4_1 + 1)))) = some r := by first | (rw [hji4] at H; exact H) | (simp only [hji4] at H ⊢; exact H)
     have hji4_ : (if x3_1 < ((rd_T52 l0 x4_1).f1) then ((rd_T52 l0 x4_1).f1) else x3_1) = ji4 := hji4
     by_cases c5 : ((rd_T52 l0 x4_1).f0) = 5
     ·rw [if_pos c5] at H
      have c5b0 : (((rd_T52 l0 x4_1).f0) == 5) = true := beq_iff_eq.mpr c5
      have c5b1 : (((rd_T52 l0 x4_1).f0) != 5) = false := bne_eq_false_iff_eq.mpr c5
      clear c5
      have H' := Aside0.mk H
      clear H
      have p1 : 0 ≤ (x4_1 : Int) := of_decide_eq_true (by first | (with_reducible assumption) | assumption)
      have q1 : x4_1 < (l0.length : Int) := of_decide_eq_true (by first | (with_reducible assumption) | assumption)
      obtain ⟨ad1, e1, hx1_0, hx1_1, hx1_2, hx1_3, hx1_4⟩ := at_T52 HR0.out x4_1 p1 q1
      cases e1
      replace hx1_0 := (HB.out.cell (World.block_lt_of_cell? w _ hx1_0)).trans hx1_0
      replace hx1_1 := (HB.out.cell (World.block_lt_of_cell? w _ hx1_1)).trans hx1_1
      replace hx1_2 := (HB.out.cell (World.block_lt_of_cell? w _ hx1_2)).trans hx1_2
      replace hx1_3 := (HB.out.cell (World.block_lt_of_cell? w _ hx1_3)).trans hx1_3
      replace hx1_4 := (HB.out.cell (World.block_lt_of_cell? w _ hx1_4)).trans hx1_4
      replace p1 := eq_true p1
      replace q1 := eq_true q1
      have p2 : 0 ≤ (x4_1 : Int) := of_decide_eq_true (by first | (with_reducible assumption) | assumption)
      have q2 : x4_1 < (l0.length : Int) := of_decide_eq_true (by first | (with_reducible assumption) | assumption)
      obtain ⟨ad2, e2, hx2_0, hx2_1, hx2_2, hx2_3, hx2_4⟩ := at_T52 HR0.out x4_1 p2 q2
      obtain rfl : ad1 = ad2 := (by injection e2)
      replace hx2_0 := (HB.out.cell (World.block_lt_of_cell? w _ hx2_0)).trans hx2_0
      replace hx2_1 := (HB.out.cell (World.block_lt_of_cell? w _ hx2_1)).trans hx2_1
      replace hx2_2 := (HB.out.cell (World.block_lt_of_cell? w _ hx2_2)).trans hx2_2
      replace hx2_3 := (HB.out.cell (World.block_lt_of_cell? w _ hx2_3)).trans hx2_3
      replace hx2_4 := (HB.out.cell (World.block_lt_of_cell? w _ hx2_4)).trans hx2_4
      replace p2 := eq_true p2
      replace q2 := eq_true q2
      go_wp2
      repeat (go_quiet (fail); try go_wp2)
      go_roundg k1
      case measure => have := HK1.out; omega
      case rel => exact ⟨(ji4), (wrap64 (x4_1 + 1)), (by first | rfl | (simp; done) | (simp only [← hji4] <;> (first | rfl | simp)) | (simp [*]; done)), (by first | rfl | (simp; done) | (simp [*]; done)), H', ⟨by have := HK1.out; omega⟩, ⟨by repeat (first | (with_reducible first | exact HB.out | apply below_alloc | apply pw_below_drewN | apply below_drew1) | exact HB.out)⟩⟩
     ·rw [if_neg c5] at H
      have c5b0 : (((rd_T52 l0 x4_1).f0) == 5) = false := beq_eq_false_iff_ne.mpr c5
      have c5b1 : (((rd_T52 l0 x4_1).f0) != 5) = true := bne_iff_ne.mpr c5
      obtain ⟨ji6, hji6⟩ : ∃ j_ : Int, (mx (ji4) ((rd_T52 l0 x4_1).f2)) = j_ := ⟨_, rfl⟩
      replace H : (narcissustop_regs.l0 k1 l0 (mx (ji6) ((rd_T52 l0 x4_1).f3)) (wrap64 (x4_1 + 1))) = some r := by first | (rw [hji6] at H; exact H) | (simp only [hji6] at H ⊢; exact H)
      have hji6_ : (if (ji4) < ((rd_T52 l0 x4_1).f2) then ((rd_T52 l0 x4_1).f2) else (ji4)) = ji6 := hji6
      obtain ⟨ji7, hji7⟩ : ∃ j_ : Int, (mx (ji6) ((rd_T52 l0 x4_1).f3)) = j_ := ⟨_, rfl⟩
      replace H : (narcissustop_regs.l0 k1 l0 ji7 (wrap64 (x4_1 + 1))) = some r := by first | (rw [hji7] at H; exact H) | (simp only [hji7] at H ⊢; exact H)
      have hji7_ : (if (ji6) < ((rd_T52 l0 x4_1).f3) then ((rd_T52 l0 x4_1).f3) else (ji6)) = ji7 := hji7
      have H' := Aside0.mk H
      clear H
      have p1 : 0 ≤ (x4_1 : Int) := of_decide_eq_true (by first | (with_reducible assumption) | assumption)
      have q1 : x4_1 < (l0.length : Int) := of_decide_eq_true (by first | (with_reducible assumption) | assumption)
      obtain ⟨ad1, e1, hx1_0, hx1_1, hx1_2, hx1_3, hx1_4⟩ := at_T52 HR0.out x4_1 p1 q1
      cases e1
      replace hx1_0 := (HB.out.cell (World.block_lt_of_cell? w _ hx1_0)).trans hx1_0
      replace hx1_1 := (HB.out.cell (World.block_lt_of_cell? w _ hx1_1)).trans hx1_1
      replace hx1_2 := (HB.out.cell (World.block_lt_of_cell? w _ hx1_2)).trans hx1_2
      replace hx1_3 := (HB.out.cell (World.block_lt_of_cell? w _ hx1_3)).trans hx1_3
      replace hx1_4 := (HB.out.cell (World.block_lt_of_cell? w _ hx1_4)).trans hx1_4
      replace p1 := eq_true p1
      replace q1 := eq_true q1
      have p2 : 0 ≤ (x4_1 : Int) := of_decide_eq_true (by first | (with_reducible assumption) | assumption)
      have q2 : x4_1 < (l0.length : Int) := of_decide_eq_true (by first | (with_reducible assumption) | assumption)
      obtain ⟨ad2, e2, hx2_0, hx2_1, hx2_2, hx2_3, hx2_4⟩ := at_T52 HR0.out x4_1 p2 q2
      obtain rfl : ad1 = ad2 := (by injection e2)
      replace hx2_0 := (HB.out.cell (World.block_lt_of_cell? w _ hx2_0)).trans hx2_0
      replace hx2_1 := (HB.out.cell (World.block_lt_of_cell? w _ hx2_1)).trans hx2_1
      replace hx2_2 := (HB.out.cell (World.block_lt_of_cell? w _ hx2_2)).trans hx2_2
      replace hx2_3 := (HB.out.cell (World.block_lt_of_cell? w _ hx2_3)).trans hx2_3
      replace hx2_4 := (HB.out.cell (World.block_lt_of_cell? w _ hx2_4)).trans hx2_4
      replace p2 := eq_true p2
      replace q2 := eq_true q2
      have p3 : 0 ≤ (x4_1 : Int) := of_decide_eq_true (by first | (with_reducible assumption) | assumption)
      have q3 : x4_1 < (l0.length : Int) := of_decide_eq_true (by first | (with_reducible assumption) | assumption)
      obtain ⟨ad3, e3, hx3_0, hx3_1, hx3_2, hx3_3, hx3_4⟩ := at_T52 HR0.out x4_1 p3 q3
      obtain rfl : ad1 = ad3 := (by injection e3)
      replace hx3_0 := (HB.out.cell (World.block_lt_of_cell? w _ hx3_0)).trans hx3_0
      replace hx3_1 := (HB.out.cell (World.block_lt_of_cell? w _ hx3_1)).trans hx3_1
      replace hx3_2 := (HB.out.cell (World.block_lt_of_cell? w _ hx3_2)).trans hx3_2
      replace hx3_3 := (HB.out.cell (World.block_lt_of_cell? w _ hx3_3)).trans hx3_3
      replace hx3_4 := (HB.out.cell (World.block_lt_of_cell? w _ hx3_4)).trans hx3_4
      replace p3 := eq_true p3
      replace q3 := eq_true q3
      have p4 : 0 ≤ (x4_1 : Int) := of_decide_eq_true (by first | (with_reducible assumption) | assumption)
      have q4 : x4_1 < (l0.length : Int) := of_decide_eq_true (by first | (with_reducible assumption) | assumption)
      obtain ⟨ad4, e4, hx4_0, hx4_1, hx4_2, hx4_3, hx4_4⟩ := at_T52 HR0.out x4_1 p4 q4
      obtain rfl : ad1 = ad4 := (by injection e4)
      replace hx4_0 := (HB.out.cell (World.block_lt_of_cell? w _ hx4_0)).trans hx4_0
      replace hx4_1 := (HB.out.cell (World.block_lt_of_cell? w _ hx4_1)).trans hx4_1
      replace hx4_2 := (HB.out.cell (World.block_lt_of_cell? w _ hx4_2)).trans hx4_2
      replace hx4_3 := (HB.out.cell (World.block_lt_of_cell? w _ hx4_3)).trans hx4_3
      replace hx4_4 := (HB.out.cell (World.block_lt_of_cell? w _ hx4_4)).trans hx4_4
      replace p4 := eq_true p4
      replace q4 := eq_true q4
      go_wp2
      repeat (go_quiet (fail); try go_wp2)
      go_roundg k1
      case measure => have := HK1.out; omega
      case rel => exact ⟨(ji7), (wrap64 (x4_1 + 1)), (by first | rfl | (simp; done) | (simp only [← hji7] <;> (first | rfl | simp)) | (simp [*]; done)), (by first | rfl | (simp; done) | (simp [*]; done)), H', ⟨by have := HK1.out; omega⟩, ⟨by repeat (first | (with_reducible first | exact HB.out | apply below_alloc | apply pw_below_drewN | apply below_drew1) | exact HB.out)⟩⟩
    ·rw [if_neg c3] at H
     exact absurd H (by simp)
   ·rw [if_neg c2] at H
    have c2b0 : decide (x4_1 < (l0.length : Int)) = false := decide_eq_false c2
    clear c2
    obtain rfl := Option.some.inj H
    go_wp2
    repeat (go_quiet (fail); try go_wp2)
    go_ret
    exact ⟨by first | rfl | (simp [errW_none, errW_some] <;> rfl) | (simp [*, errW_none, errW_some] <;> rfl), by repeat (first | (with_reducible first | exact HB.out | apply below_alloc | apply pw_below_drewN | apply below_drew1) | exact HB.out)⟩
end Go.Proofs.Ytpnmmpfidiegcaa.C
end
section
namespace Go.Proofs.Ytpnmmpfidiegcaa.C
open Go.RowKit Go.Proofs.YtpnmmpfidiegcaaW.PrintWords Go.Proofs.YtpnmmpfidiegcaaW.PrintLast Go.Proofs.YtpnmmpfidiegcaaW.PrintMore
attribute [local go_sem] max2_int min2_int max_two min_two max_three min_three max_four min_four
set_option linter.unusedVariables false
set_option linter.unusedSimpArgs false
def narcissustop_tail.f  : Option ((List (S52))) := some (([(⟨4, 0, 0, 0, (⟨#[]⟩ : ByteArray)⟩ : S52)] : List (S52)))
set_option maxHeartbeats 8000000 in
set_option maxRecDepth 100000 in
theorem narcissustop_tail.calls  (r : List (S52)) (w : World) (h : narcissustop_tail.f  = some r) :
  Calls Try.prog 40 #[] w fun e w' => ∃ v0_ : Value, e = .returned (v0_) ∧ Kd.R k52 52 w' w.heap.size (fun _ => True) v0_ r ∧ Below w.heap.size w w' := by
 have hu52 := Try.underlying52
 have HB := Aside0.mk (Below.refl w.heap.size w)
 have H : (some (([(⟨4, 0, 0, 0, (⟨#[]⟩ : ByteArray)⟩ : S52)] : List (S52)))) = some r := h
 clear h
 obtain ⟨y1, hy1⟩ : ∃ y_ : List (S52), y_ = (([(⟨4, 0, 0, 0, (⟨#[]⟩ : ByteArray)⟩ : S52)] : List (S52))) := ⟨_, rfl⟩
 replace H : (some y1) = some r := by first | (rw [hy1]; with_reducible exact H) | (have H2_ := (Option.bind_some _ _).symm.trans H; rw [hy1]; with_reducible exact H2_) | (have H2_ := (Option.bind_some _ _).symm.trans H; with_reducible exact H2_) | with_reducible exact H | (rw [hy1]; exact H) | exact H
 have Ny1 := Aside0.mk hy1
 clear hy1
 obtain rfl := Option.some.inj H
 go_enter Try.func40, Try.ntmps40
 go_wp2_with (first | ((with_reducible refine gate_dst (N := 2) rfl ?_); refine Kd.R_lit k52 _ 52 ?hg (N := 2) ?hd (xs := ([(⟨4, 0, 0, 0, (⟨#[]⟩ : ByteArray)⟩ : S52)] : List (S52))) (inner := [.int .i64 4, .int .i64 0, .int .i64 0, .int .i64 0, .string (⟨#[]⟩ : ByteArray)]) (ok := fun _ => True) (okp := fun _ => True) ?hr ?hp (fun _ hk => hk) trivial (Below.refl _ _) (Nat.le_refl _) (by simp) ?_; (case hd => rfl); (case hg => rfl); (case hr => first | (go_simp; done) | (go_simp; rfl)); (case hp => exact (Reps.c5 (show Kd.M k52 _ _ _ (⟨4, 0, 0, 0, (⟨#[]⟩ : ByteArray)⟩ : S52) [.int .i64 4, .int .i64 0, .int .i64 0, .int .i64 0, .string (⟨#[]⟩ : ByteArray)] from (k52_mkM _ _ _ (⟨4, 0, 0, 0, (⟨#[]⟩ : ByteArray)⟩ : S52) )) (Reps.none _ _))); intro v2 w1 ho2 hb hg_ hnew_; clear hg_ hnew_; (first | rw [← Ny1.out] at ho2 | (simp only [Int.reduceToNat] at ho2; rw [← Ny1.out] at ho2)); have n0_ := Aside0.mk (Kd.R_lower ho2 (below_size (by repeat (first | (with_reducible first | exact HB.out | apply below_alloc | apply pw_below_drewN | apply below_drew1) | exact HB.out)))); have n1_ := Aside0.mk (below_step (by repeat (first | (with_reducible first | exact HB.out | apply below_alloc | apply pw_below_drewN | apply below_drew1) | exact HB.out)) hb); clear HB; have HO3 := n0_; have HB := n1_; clear n0_ n1_; clear hb ho2))
 go_ret
 exact ⟨_, by first | rfl | (simp [errW_none, errW_some] <;> rfl) | (simp [*, errW_none, errW_some] <;> rfl), by (with_reducible repeat (first | apply Kd.R_alloc | apply Kd.R_drewN | apply Kd.R_drew)); exact HO3.out, by repeat (first | (with_reducible first | exact HB.out | apply below_alloc | apply pw_below_drewN | apply below_drew1) | exact HB.out)⟩
end Go.Proofs.Ytpnmmpfidiegcaa.C
end
section
namespace Go.Proofs.Ytpnmmpfidiegcaa.C
open Go.RowKit Go.Proofs.YtpnmmpfidiegcaaW.PrintWords Go.Proofs.YtpnmmpfidiegcaaW.PrintLast Go.Proofs.YtpnmmpfidiegcaaW.PrintMore
open Go.Proofs.Ytpnmmpfidiegcaa.Plain (sizes Tr OKP runM codeT lstT itemT init univ univ_ends okp_iff dec)
set_option linter.unusedVariables false
set_option linter.unusedSimpArgs false
abbrev Prg := List S52
def Played (w : World) (q : Tr × Nat × Int) (e : Ending) (w' : World) : Prop := Below w.heap.size w w' ∧
  ((q.2.2 = 0 ∧ ∃ v, e = .returned (.tuple #[v, .int .i64 (q.2.1 : Nat), .int .i64 0]) ∧ Nd w' q.1 v) ∨ (q.2.2 = 7 ∧ ∃ (n : Int), e = .returned (.tuple #[.pointer none, .int .i64 n, .int .i64 1])) ∨ (q.2.2 = 3 ∧ ∃ (n : Int), e = .returned (.tuple #[.pointer none, .int .i64 n, .int .i64 2])))
set_option maxHeartbeats 2000000 in
theorem play_go (A : Option Addr) (c m : Nat) (p : List S52) (t : Tr) (x : Value) (k : Nat) (w : World) (hm : p.length = m) (hC : Kd.C k52 w A m p) (hp : OKP p) (hx : Nd w t x) (hz : t.size ≤ 2000000) (hk : k ≤ 1000000000) :
    Calls Try.prog 8 #[.slice A m c, x, .int .i64 k] w (Played w (runM p t k)) := by
  subst hm
  have HF := Aside0.mk (follow_go2 A c p t x k w hC hp hx hz hk)
  obtain ⟨px, rfl⟩ := Nd.ptr hx
  clear hC hp hx hz hk
  generalize runM p t k = q at *
  go_enter Try.func8, Try.ntmps8
  go_wp2_with (go_at_call 41; (with_reducible refine HF.out.mono ?_); rintro e w2 ⟨hb, ⟨h0, v, mo, rfl, hv, hcm⟩ | ⟨h0, n, mo, rfl, hcm⟩ | ⟨h0, n, rfl⟩⟩ <;> (try clear hcm))
  · refine bodyPost_ret (v := (.tuple #[v, .int .i64 (q.2.1 : Nat), .int .i64 0])) (by simp [results, Try.results8, go_sem]) rfl ?_; exact ⟨hb, .inl ⟨h0, v, rfl, hv⟩⟩
  · refine bodyPost_ret (v := (.tuple #[.pointer none, .int .i64 n, .int .i64 1])) (by simp [results, Try.results8, go_sem]) rfl ?_; exact ⟨hb, .inr (.inl ⟨h0, n, rfl⟩)⟩
  · refine bodyPost_ret (v := (.tuple #[.pointer none, .int .i64 n, .int .i64 2])) (by simp [results, Try.results8, go_sem]) rfl ?_; exact ⟨hb, .inr (.inr ⟨h0, n, rfl⟩)⟩
set_option maxHeartbeats 2000000 in
theorem calm_go (A : Option Addr) (c m : Nat) (p : List S52) (t : Tr) (x : Value) (k : Nat) (N : Int) (w : World) (hN : N = (k : Int)) (hm : p.length = m) (hC : Kd.C k52 w A m p) (hp : OKP p) (hx : Nd w t x) (hz : t.size ≤ 2000000) (hk : k ≤ 1000000000) :
    Calls Try.prog 9 #[.slice A m c, x, .int .i64 N] w fun e w' => ∃ b, e = .returned (.bool b) ∧ (b = true → Plain.Calm p k 0 (init t)) ∧ Below w.heap.size w w' := by
  subst hm hN
  have HF := Aside0.mk (follow_go2 A c p t x k w hC hp hx hz hk)
  obtain ⟨px, rfl⟩ := Nd.ptr hx
  clear hC hp hx hz hk
  generalize runM p t k = q at *
  go_enter Try.func9, Try.ntmps9
  go_wp2_with (go_at_call 41; (with_reducible refine HF.out.mono ?_); rintro e w2 ⟨hb, ⟨h0, v, mo, rfl, hv, hcm⟩ | ⟨h0, n, mo, rfl, hcm⟩ | ⟨h0, n, rfl⟩⟩; (have HCM := Aside0.mk hcm; have HB := Aside0.mk hb; clear hcm hb hv h0); rotate_left; (have HCM := Aside0.mk hcm; have HB := Aside0.mk hb; clear hcm hb h0); rotate_left; (have HB := Aside0.mk hb; clear hb h0); rotate_left)
  · go_ret
    exact ⟨decide (mo ≤ 200000), rfl, fun h => HCM.out (of_decide_eq_true h), HB.out⟩
  · go_ret
    exact ⟨decide (mo ≤ 200000), rfl, fun h => HCM.out (of_decide_eq_true h), HB.out⟩
  · go_ret
    exact ⟨false, rfl, (fun h => by cases h), HB.out⟩
theorem lstT_drop (l : List Tr) : ∀ j, (lstT (l.drop j)).size ≤ (lstT l).size := by
  intro j
  induction l generalizing j with
  | nil => rw [List.drop_nil]; exact Nat.le_refl _
  | cons t l ih =>
    cases j with
    | zero => exact Nat.le_refl _
    | succ j =>
      have h := ih j
      have e : (lstT (t :: l)).size = 1 + t.size + (lstT l).size := rfl
      rw [List.drop_succ_cons, e]
      omega
set_option maxRecDepth 100000 in
theorem code_small {p : Prg} (h : OKP p) : (codeT p).size ≤ 40000000 := by
  have h1 := Plain.codeT_bound h
  have h2 : p.length * (301 + 2 * p.length) ≤ 4000 * (301 + 2 * 4000) := Nat.mul_le_mul h.1 (by have := h.1; omega)
  have h3 := (Plain.okp_iff.1 h).2.1
  omega
theorem code_drop {p : Prg} (h : OKP p) : ∀ j, (codeT (p.drop j)).size ≤ 1000000000 := by
  intro j
  have h1 := lstT_drop (p.map itemT) j
  rw [← List.map_drop] at h1
  have h2 := code_small h
  exact Nat.le_trans h1 (Nat.le_trans h2 (by decide))
theorem codeU_yes {A : Option Addr} {c m : Nat} {p : Prg} {w : World} (hm : p.length = m) (hC : Kd.C k52 w A m p) (hp : OKP p) :
    Calls Try.prog 11 #[.slice A m c] w fun e w' => ∃ v, e = .returned v ∧ Nd w' (codeT p) v ∧ Below w.heap.size w w' := by
  subst hm
  exact code_calls A c p w hC hp (code_drop hp)
theorem play_to {A : Option Addr} {c m : Nat} {p : Prg} {t : Tr} {x : Value} (k : Nat) (N : Int) {w : World} (hN : N = (k : Int)) (hm : p.length = m) (hC : Kd.C k52 w A m p) (hp : OKP p) (hx : Nd w t x) (hz : t.size ≤ 2000000) (hk : k ≤ 1000000000) :
    Calls Try.prog 8 #[.slice A m c, x, .int .i64 N] w (Played w (runM p t k)) := by
  subst hN
  exact play_go A c m p t x k w hm hC hp hx hz hk
theorem play_end {A : Option Addr} {c m : Nat} {p : Prg} {t y : Tr} {x : Value} {n : Nat} (k : Nat) (N : Int) {w : World} (hN : N = (k : Int)) (hm : p.length = m) (hC : Kd.C k52 w A m p) (hp : OKP p) (hx : Nd w t x) (hz : t.size ≤ 2000000) (hk : k ≤ 1000000000) (hr : runM p t k = (y, n, 0)) :
    Calls Try.prog 8 #[.slice A m c, x, .int .i64 N] w fun e w' => ∃ v, e = .returned (.tuple #[v, .int .i64 (n : Int), .int .i64 0]) ∧ Nd w' y v ∧ Below w.heap.size w w' := by
  refine (play_to k N hN hm hC hp hx hz hk).mono ?_
  rw [hr]
  rintro e w' ⟨hb, ⟨_, v, rfl, hv⟩ | ⟨h0, _⟩ | ⟨h0, _⟩⟩
  · exact ⟨v, rfl, hv, hb⟩
  · exact absurd h0 (show ¬ ((0 : Int) = 7) by decide)
  · exact absurd h0 (show ¬ ((0 : Int) = 3) by decide)
theorem play_on {A : Option Addr} {c m : Nat} {p : Prg} {t : Tr} {x : Value} (k : Nat) (N : Int) {w : World} (hN : N = (k : Int)) (hm : p.length = m) (hC : Kd.C k52 w A m p) (hp : OKP p) (hx : Nd w t x) (hz : t.size ≤ 2000000) (hk : k ≤ 1000000000) (hr : (runM p t k).2.2 = 7) :
    Calls Try.prog 8 #[.slice A m c, x, .int .i64 N] w fun e w' => ∃ n : Int, e = .returned (.tuple #[.pointer none, .int .i64 n, .int .i64 1]) ∧ Below w.heap.size w w' := by
  refine (play_to k N hN hm hC hp hx hz hk).mono ?_
  rintro e w' ⟨hb, ⟨h0, _⟩ | ⟨_, n, rfl⟩ | ⟨h0, _⟩⟩
  · rw [hr] at h0; exact absurd h0 (by decide)
  · exact ⟨n, rfl, hb⟩
  · rw [hr] at h0; exact absurd h0 (by decide)
theorem play_large {A : Option Addr} {c m : Nat} {p : Prg} {t : Tr} {x : Value} (k : Nat) (N : Int) {w : World} (hN : N = (k : Int)) (hm : p.length = m) (hC : Kd.C k52 w A m p) (hp : OKP p) (hx : Nd w t x) (hz : t.size ≤ 2000000) (hk : k ≤ 1000000000) (hr : (runM p t k).2.2 = 3) :
    Calls Try.prog 8 #[.slice A m c, x, .int .i64 N] w fun e w' => ∃ n : Int, e = .returned (.tuple #[.pointer none, .int .i64 n, .int .i64 2]) ∧ Below w.heap.size w w' := by
  refine (play_to k N hN hm hC hp hx hz hk).mono ?_
  rintro e w' ⟨hb, ⟨h0, _⟩ | ⟨h0, _⟩ | ⟨_, n, rfl⟩⟩
  · rw [hr] at h0; exact absurd h0 (by decide)
  · rw [hr] at h0; exact absurd h0 (by decide)
  · exact ⟨n, rfl, hb⟩
theorem tp_regs {A : Option Addr} {c m n : Nat} {p : Prg} {w : World} (hm : p.length = m) (hC : Kd.C k52 w A m p) (hc : m ≤ c) (h : narcissustop_regs.f 10000 p = some (n : Int)) :
    Calls Try.prog 38 #[.slice A m c] w fun e w' => e = .returned (.int .i64 (n : Int)) ∧ Below w.heap.size w w' := by
  subst hm
  exact narcissustop_regs.calls 10000 A c p _ w hC hc h
def tailP : Prg := [⟨4, 0, 0, 0, ⟨#[]⟩⟩]
theorem okp_of {p : Prg} (n : Nat) (hn : p.length = n) (h1 : n ≤ 4000) (h2 : sizes p ≤ 2000000) (h3 : Plain.viB p n 0 p = true) : OKP p := by
  subst hn
  refine okp_iff.2 ⟨h1, h2, fun j hj => ?_⟩
  have h := Plain.vi_of_B p p p.length 0 h3 j hj
  rw [Nat.zero_add] at h
  exact h
set_option maxRecDepth 100000 in
theorem univ_okp : OKP univ := okp_of 129 rfl (by decide) (by decide +kernel) (by decide +kernel)
theorem tail_okp : OKP tailP := okp_of 1 rfl (by decide) (by decide +kernel) (by decide +kernel)
theorem okp_right {p : Prg} (h : OKP p) : ∀ j (hj : j < p.length), Plain.Right p[j] j p.length := fun j hj => (okp_iff.1 h).2.2 j hj
set_option maxRecDepth 100000 in
theorem univ_code : (codeT univ).size ≤ 100000 := by
  have h := Plain.codeT_bound univ_okp
  have h2 : sizes univ ≤ 100 := by decide +kernel
  have h3 : univ.length = 129 := rfl
  rw [h3] at h
  omega
theorem univ_tail : ∃ n, runM univ (.cons (codeT tailP) (.cons .nil (.cons .nil .nil))) 10000 = (.cons .nil .nil, n, 0) := by
  refine univ_ends tail_okp (okp_right tail_okp) (k := 1) (fun j hj => ?_) (n := 1) rfl 10000 (by decide)
  have : j = 0 ∨ j = 1 := by omega
  rcases this with rfl | rfl
  · decide +kernel
  · decide +kernel
set_option maxHeartbeats 4000000 in
set_option maxRecDepth 100000 in
theorem simulates_yes {A : Option Addr} {c : Nat} {w : World} (hC : Kd.C k52 w A 129 univ) (hc : 129 ≤ c) :
    Calls Try.prog 7 #[.slice A 129 c] w fun e w' => e = .returned (.bool true) ∧ Below w.heap.size w w' := by
  obtain ⟨nn, hrun⟩ := univ_tail
  obtain ⟨sc, hsc⟩ : ∃ sc, (codeT univ).size = sc := ⟨_, rfl⟩
  have hscz := univ_code
  rw [hsc] at hscz
  have HSC := Aside0.mk hsc
  have hscI : (sc : Int) ≤ 100000 := by omega
  have t1 : decide ((100000 : Int) < (sc : Int)) = false := decide_eq_false (by omega)
  have HG1 : Aside0 (GrowOk ⟨#[49, 48, 49, 48, 48]⟩ 10 ∧ (⟨#[49, 48, 49, 48, 48]⟩ : ByteArray).size ≤ 100000000) := ⟨⟨by decide, ⟨.cons .nil (.cons .nil .nil), rfl⟩⟩, by decide⟩
  have HG2 : Aside0 (GrowOk ⟨#[49, 48, 48]⟩ 10 ∧ (⟨#[49, 48, 48]⟩ : ByteArray).size ≤ 100000000) := ⟨⟨by decide, ⟨.cons .nil .nil, rfl⟩⟩, by decide⟩
  have HD1 : Aside0 (dec (⟨#[49, 48, 49, 48, 48]⟩ : ByteArray).data.toList = .cons .nil (.cons .nil .nil)) := ⟨Plain.dec_enc (.cons .nil (.cons .nil .nil))⟩
  have HD2 : Aside0 (dec (⟨#[49, 48, 48]⟩ : ByteArray).data.toList = .cons .nil .nil) := ⟨Plain.dec_enc (.cons .nil .nil)⟩
  have HRG : Aside0 (narcissustop_regs.f 10000 univ = some ((15 : Nat) : Int)) := ⟨by kernel_rfl⟩
  have HRN := Aside0.mk hrun
  have HC := Aside0.mk hC
  have HCC := Aside0.mk hc
  have HU : Aside0 (OKP univ ∧ univ.length = 129) := ⟨univ_okp, rfl⟩
  have HTP : Aside0 (OKP tailP ∧ tailP.length = 1 ∧ narcissustop_tail.f = some tailP) := ⟨tail_okp, rfl, rfl⟩
  have HZ : Aside0 ((codeT tailP).size ≤ 1000000000000 ∧ (Tr.cons .nil (.cons .nil .nil)).size ≤ 1000000000000 ∧ (Tr.cons (codeT tailP) (.cons .nil (.cons .nil .nil))).size ≤ 2000000 ∧ (10000 : Int) = ((10000 : Nat) : Int) ∧ 10000 ≤ 1000000000 ∧ (Tr.cons .nil .nil).size ≤ 100000000) := ⟨by decide +kernel, by decide, by decide +kernel, rfl, by decide, by decide⟩
  have HB := Aside0.mk (Below.refl w.heap.size w)
  clear hC hc hrun hsc hscz
  go_enter Try.func7, Try.ntmps7
  go_wp2_with (first
    | (go_at_call 5; first
        | ((with_reducible refine (grow_yes ⟨#[49, 48, 49, 48, 48]⟩ 10 _ HG1.out.1 HG1.out.2).mono ?_); rintro e w1 ⟨vx, rfl, hx, hb⟩; rw [HD1.out] at hx; have HX := Aside0.mk hx; have HB := Aside0.mk (below_then HB.out HB.out.size hb); clear hx hb)
        | ((with_reducible refine (grow_yes ⟨#[49, 48, 48]⟩ 10 _ HG2.out.1 HG2.out.2).mono ?_); rintro e w1 ⟨vy, rfl, hx, hb⟩; rw [HD2.out] at hx; have HY := Aside0.mk hx; have HX := Aside0.mk (Nd.keep (NK.below hb) _ _ HX.out); have HB := Aside0.mk (below_then HB.out HB.out.size hb); clear hx hb))
    | (go_at_call 37; (with_reducible refine (whole_yes (A := A) HU.out.2 (Kd.C_below HC.out HB.out) HU.out.1).mono ?_); rintro e w1 ⟨rfl, hb⟩; have HB := Aside0.mk (below_then HB.out HB.out.size hb); have HX := Aside0.mk (Nd.keep (NK.below hb) _ _ HX.out); have HY := Aside0.mk (Nd.keep (NK.below hb) _ _ HY.out); clear hb)
    | (go_at_call 38; (with_reducible refine (tp_regs (n := 15) HU.out.2 (Kd.C_below HC.out HB.out) HCC.out HRG.out).mono ?_); rintro e w1 ⟨rfl, hb⟩; have HB := Aside0.mk (below_then HB.out HB.out.size hb); have HX := Aside0.mk (Nd.keep (NK.below hb) _ _ HX.out); have HY := Aside0.mk (Nd.keep (NK.below hb) _ _ HY.out); clear hb)
    | (go_at_call 40; (with_reducible refine (narcissustop_tail.calls tailP _ HTP.out.2.2).mono ?_); rintro e w1 ⟨vt, rfl, hR, hb⟩; obtain ⟨At, ct, rfl, _, hCt⟩ := Kd.R_reads hR; have HCT := Aside0.mk hCt; have HB := Aside0.mk (below_then HB.out HB.out.size hb); have HX := Aside0.mk (Nd.keep (NK.below hb) _ _ HX.out); have HY := Aside0.mk (Nd.keep (NK.below hb) _ _ HY.out); clear hb hR hCt)
    | (go_at_call 11; first
        | ((with_reducible refine (codeU_yes (A := A) HU.out.2 (Kd.C_below HC.out HB.out) HU.out.1).mono ?_); rintro e w1 ⟨vc, rfl, hv, hb⟩; have HVC := Aside0.mk hv; have HB := Aside0.mk (below_then HB.out HB.out.size hb); have HX := Aside0.mk (Nd.keep (NK.below hb) _ _ HX.out); have HY := Aside0.mk (Nd.keep (NK.below hb) _ _ HY.out); clear hb hv)
        | ((with_reducible refine (codeU_yes (A := At) (p := tailP) HTP.out.2.1 HCT.out HTP.out.1).mono ?_); rintro e w1 ⟨vq, rfl, hv, hb⟩; have HVQ := Aside0.mk hv; have HB := Aside0.mk (below_then HB.out HB.out.size hb); have HX := Aside0.mk (Nd.keep (NK.below hb) _ _ HX.out); have HY := Aside0.mk (Nd.keep (NK.below hb) _ _ HY.out); clear hb hv)
        | ((with_reducible refine (codeU_yes (A := At) (p := tailP) (m := tailP.length) rfl HCT.out HTP.out.1).mono ?_); rintro e w1 ⟨vq, rfl, hv, hb⟩; have HVQ := Aside0.mk hv; have HB := Aside0.mk (below_then HB.out HB.out.size hb); have HX := Aside0.mk (Nd.keep (NK.below hb) _ _ HX.out); have HY := Aside0.mk (Nd.keep (NK.below hb) _ _ HY.out); clear hb hv))
    | (go_at_call 39; (with_reducible refine (Size_nat (codeT univ) vc _ HVC.out HSC.out).mono ?_); rintro e w1 ⟨rfl, rfl⟩)
    | (go_at_call 10; (with_reducible refine (Cons_calls (codeT tailP) (.cons .nil (.cons .nil .nil)) vq vx _ HVQ.out HX.out HZ.out.1 HZ.out.2.1).mono ?_); rintro e w1 ⟨vp, rfl, hv, hb⟩; have HVP := Aside0.mk hv; have HB := Aside0.mk (below_then HB.out HB.out.size hb); have HY := Aside0.mk (Nd.keep (NK.below hb) _ _ HY.out); clear hb hv)
    | (go_at_call 8; (with_reducible refine (play_end (A := A) 10000 10000 HZ.out.2.2.2.1 HU.out.2 (Kd.C_below HC.out HB.out) HU.out.1 HVP.out HZ.out.2.2.1 HZ.out.2.2.2.2.1 HRN.out).mono ?_); rintro e w1 ⟨vz, rfl, hv, hb⟩; have HVZ := Aside0.mk hv; have HB := Aside0.mk (below_then HB.out HB.out.size hb); have HY := Aside0.mk (Nd.keep (NK.below hb) _ _ HY.out); clear hb hv)
    | (go_at_call 12; (with_reducible refine (equal_yes (.cons .nil .nil) vz vy _ HVZ.out HY.out HZ.out.2.2.2.2.2).mono ?_); rintro e w1 ⟨rfl, hb⟩; have HB := Aside0.mk (below_then HB.out HB.out.size hb); clear hb))
  go_ret
  exact ⟨rfl, HB.out⟩
end Go.Proofs.Ytpnmmpfidiegcaa.C
end
section
namespace Go.Proofs.Ytpnmmpfidiegcaa.C
open Go.RowKit Go.Proofs.YtpnmmpfidiegcaaW.PrintWords Go.Proofs.YtpnmmpfidiegcaaW.PrintLast Go.Proofs.YtpnmmpfidiegcaaW.PrintMore
open Go.Proofs.Ytpnmmpfidiegcaa.Plain (Tr)
set_option linter.unusedVariables false
set_option linter.unusedSimpArgs false
theorem infoCell : ∃ i, Try.prog.info? 59 = some i ∧ i.size ≠ 0 := ⟨_, rfl, by decide⟩
theorem infoPc : ∃ i, Try.prog.info? 25 = some i := ⟨_, rfl⟩
theorem cellsPc : Try.prog.cellsOf 25 = 1 := by kernel_rfl
theorem hz59 : ¬ Try.t59.size = 0 := by decide
theorem heap_drewN' (w : World) (m k : Nat) : (w.drewN m).heap[k]? = w.heap[k]? := by
  induction m generalizing w with
  | zero => rfl
  | succ m ih => exact ih w.drew
theorem ptr_eq (d : Nat) {w : World} {t u : Tr} {p q : Option Addr} (hp : Nd w t (.pointer p)) (hq : Nd w u (.pointer q)) :
    ∃ b, (∀ m, (Op.equalIn (d + 1) 25 (.pointer p) (.pointer q)).run Try.prog (w.drewN m) = .ok b (w.drewN m)) ∧ (b = true → p = q) := by
  obtain ⟨i, hi, hz⟩ := infoCell
  cases p with
  | none =>
    refine ⟨q.isNone, fun m => by simp [Op.equalIn, run_underlying Try.underlying25], fun h => ?_⟩
    cases q with
    | none => rfl
    | some a => cases h
  | some a =>
    cases q with
    | none => exact ⟨false, fun m => by simp [Op.equalIn, run_underlying Try.underlying25], fun h => by cases h⟩
    | some b =>
      have blk : ∀ {t : Tr} {a : Addr}, Nd w t (.pointer (some a)) → ∃ cs, w.heap[a.block]? = some (.cells cs 59 (0, 0)) := fun {t a} h => by
        cases t with
        | nil => cases h
        | cons x y =>
          obtain ⟨g, va, vb, e, hg, _⟩ := h
          injection e with e
          injection e with e
          subst e
          exact ⟨_, hg⟩
      obtain ⟨ca, ha⟩ := blk hp
      obtain ⟨cb, hb⟩ := blk hq
      by_cases e : a = b
      · subst e
        exact ⟨true, fun m => by simp [Op.equalIn, run_underlying Try.underlying25, sizeOf, hi, hz, run_sameAddr_same], fun _ => rfl⟩
      · exact ⟨false, fun m => by simp [Op.equalIn, run_underlying Try.underlying25, sizeOf, hz59, run_sameAddr_other (w.drewN m) e ((heap_drewN' w m _).trans ha) ((heap_drewN' w m _).trans hb)], fun h => by cases h⟩
theorem items_eq (d : Nat) {w : World} {xs ys : List Value} (h : ∀ i, i < 32 → ∃ t u p q, xs[i]? = some (.pointer p) ∧ ys[i]? = some (.pointer q) ∧ Nd w t (.pointer p) ∧ Nd w u (.pointer q)) : ∀ is : List Nat, (∀ i ∈ is, i < 32) →
    ∃ b, (∀ m, (Op.eqItems (d + 1) 25 (Try.prog.cellsOf 25) xs.toArray ys.toArray is).run Try.prog (w.drewN m) = .ok b (w.drewN m)) ∧ (b = true → ∀ i ∈ is, xs[i]? = ys[i]?)
  | [], _ => ⟨true, fun m => by simp [Op.eqItems], fun _ _ h => by cases h⟩
  | i :: is, hi => by
    obtain ⟨t, u, p, q, hx, hy, hp, hq⟩ := h i (hi i List.mem_cons_self)
    obtain ⟨b, hb, hbe⟩ := ptr_eq d hp hq
    obtain ⟨b2, hb2, hbe2⟩ := items_eq d h is (fun j hj => hi j (List.mem_cons_of_mem _ hj))
    have hpx : ∀ m, (part 25 xs.toArray (i * Try.prog.cellsOf 25)).run Try.prog (w.drewN m) = .ok (.pointer p) (w.drewN m) := by
      intro m
      rw [cellsPc, Nat.mul_one]
      simp [part, isAgg, run_underlying Try.underlying25, hx]
    have hpy : ∀ m, (part 25 ys.toArray (i * Try.prog.cellsOf 25)).run Try.prog (w.drewN m) = .ok (.pointer q) (w.drewN m) := by
      intro m
      rw [cellsPc, Nat.mul_one]
      simp [part, isAgg, run_underlying Try.underlying25, hy]
    cases b with
    | false => exact ⟨false, fun m => by simp only [Op.eqItems, Sem.run_bind, hpx m, hpy m, hb m, Result.andThen_ok]; simp, fun h => by cases h⟩
    | true =>
      refine ⟨b2, fun m => by simp only [Op.eqItems, Sem.run_bind, hpx m, hpy m, hb m, Result.andThen_ok]; simpa using hb2 m, fun h2 j hj => ?_⟩
      rcases List.mem_cons.1 hj with rfl | hj
      · rw [hx, hy, hbe rfl]
      · exact hbe2 h2 j hj
theorem regs_eq (d : Nat) {w : World} {xs ys : List Value} (h : ∀ i, i < 32 → ∃ t u p q, xs[i]? = some (.pointer p) ∧ ys[i]? = some (.pointer q) ∧ Nd w t (.pointer p) ∧ Nd w u (.pointer q)) :
    ∃ b, (∀ m, (Op.equalIn (d + 1 + 1) 62 (.agg xs.toArray) (.agg ys.toArray)).run Try.prog (w.drewN m) = .ok b (w.drewN m)) ∧ (b = true → ∀ i, i < 32 → xs[i]? = ys[i]?) := by
  obtain ⟨i, hi⟩ := infoPc
  obtain ⟨b, hb, hbe⟩ := items_eq d h (List.range 32) (fun i hi => List.mem_range.1 hi)
  exact ⟨b, fun m => by rw [run_equalIn_array (w.drewN m) (d + 1) xs.toArray ys.toArray Try.underlying62 hi]; exact hb m, fun h i hi => hbe h i (List.mem_range.2 hi)⟩
end Go.Proofs.Ytpnmmpfidiegcaa.C
end
