/- Texts of this claim, together: what the functions return, and what they say in plain words. -/
import Derived.Test.YtpnmmpfidiegcaaGreatDoorUK
import Derived.Test.YtpnmmpfidiegcaaGreatDoorUB
import Derived.Outline
import Derived.Test.YtpnmmpfidiegcaaGreatDoorUF
import Derived.Test.YtpnmmpfidiegcaaGreatDoorUI
import Derived.Test.YtpnmmpfidiegcaaGreatDoorUJ
section
namespace Go.Proofs.YtpnmmpfidiegcaaGreatDoor.C
open Go.RowKit Go.Proofs.YtpnmmpfidiegcaaGreatDoorW.PrintWords Go.Proofs.YtpnmmpfidiegcaaGreatDoorW.PrintLast Go.Proofs.YtpnmmpfidiegcaaGreatDoorW.PrintMore
open Go.Proofs.YtpnmmpfidiegcaaGreatDoor.Plain (Tr OKP runM)
set_option linter.unusedVariables false
set_option linter.unusedSimpArgs false
def Played (w : World) (q : Tr × Nat × Int) (e : Ending) (w' : World) : Prop := Below w.heap.size w w' ∧
  ((q.2.2 = 0 ∧ ∃ v, e = .returned (.tuple #[v, .int .i64 (q.2.1 : Nat), .int .i64 0]) ∧ Nd w' q.1 v) ∨ (q.2.2 = 7 ∧ ∃ (n : Int), e = .returned (.tuple #[.pointer none, .int .i64 n, .int .i64 1])) ∨ (q.2.2 = 3 ∧ ∃ (n : Int), e = .returned (.tuple #[.pointer none, .int .i64 n, .int .i64 2])))
set_option maxHeartbeats 2000000 in
theorem play_go (A : Option Addr) (c m : Nat) (p : List S52) (t : Tr) (x : Value) (k : Nat) (w : World) (hm : p.length = m) (hC : Kd.C k52 w A m p) (hp : OKP p) (hx : Nd w t x) (hz : t.size ≤ 2000000) (hk : k ≤ 1000000000) :
    Calls Tryz.prog 14 #[.slice A m c, x, .int .i64 k] w (Played w (runM p t k)) := by
  subst hm
  have HF := Aside0.mk (follow_go A c p t x k w hC hp hx hz hk)
  obtain ⟨px, rfl⟩ := Nd.ptr hx
  clear hC hp hx hz hk
  generalize runM p t k = q at *
  go_enter Tryz.func14, Tryz.ntmps14
  go_wp2_with (go_at_call 28; (with_reducible refine HF.out.mono ?_); rintro e w2 ⟨hb, ⟨h0, v, mo, rfl, hv⟩ | ⟨h0, n, mo, rfl⟩ | ⟨h0, n, mo, rfl⟩⟩)
  · refine bodyPost_ret (v := (.tuple #[v, .int .i64 (q.2.1 : Nat), .int .i64 0])) (by simp [results, Tryz.results14, go_sem]) rfl ?_; exact ⟨hb, .inl ⟨h0, v, rfl, hv⟩⟩
  · refine bodyPost_ret (v := (.tuple #[.pointer none, .int .i64 n, .int .i64 1])) (by simp [results, Tryz.results14, go_sem]) rfl ?_; exact ⟨hb, .inr (.inl ⟨h0, n, rfl⟩)⟩
  · refine bodyPost_ret (v := (.tuple #[.pointer none, .int .i64 n, .int .i64 2])) (by simp [results, Tryz.results14, go_sem]) rfl ?_; exact ⟨hb, .inr (.inr ⟨h0, n, rfl⟩)⟩
end Go.Proofs.YtpnmmpfidiegcaaGreatDoor.C
end
section
namespace Go.Proofs.YtpnmmpfidiegcaaGreatDoor.C
open Go.RowKit Go.Proofs.YtpnmmpfidiegcaaGreatDoorW.PrintWords Go.Proofs.YtpnmmpfidiegcaaGreatDoorW.PrintLast Go.Proofs.YtpnmmpfidiegcaaGreatDoorW.PrintMore
set_option linter.unusedVariables false
set_option linter.unusedSimpArgs false
def ringHead : List S52 := [⟨3, 2, 0, 0, ⟨#[]⟩⟩, ⟨4, 3, 0, 0, ⟨#[]⟩⟩, ⟨0, 0, 0, 0, ⟨#[48]⟩⟩, ⟨1, 4, 2, 0, ⟨#[]⟩⟩, ⟨0, 7, 0, 0, ⟨#[49, 48, 48]⟩⟩,
  ⟨5, 7, 4, 0, ⟨#[]⟩⟩, ⟨3, 6, 4, 0, ⟨#[]⟩⟩, ⟨2, 5, 6, 5, ⟨#[]⟩⟩, ⟨4, 4, 4, 0, ⟨#[]⟩⟩, ⟨5, 4, -3, 0, ⟨#[]⟩⟩,
  ⟨2, 8, 7, 2, ⟨#[]⟩⟩, ⟨2, 8, 1, 8, ⟨#[]⟩⟩, ⟨0, 9, 0, 0, ⟨#[49, 48, 49, 49, 48, 48, 48]⟩⟩, ⟨0, 10, 0, 0, ⟨#[49, 49, 48, 49, 48, 48, 49, 48, 49, 49, 48, 48, 48]⟩⟩,
  ⟨5, 7, 7, 0, ⟨#[]⟩⟩, ⟨3, 6, 5, 0, ⟨#[]⟩⟩, ⟨2, 6, 9, 6, ⟨#[]⟩⟩, ⟨2, 6, 10, 6, ⟨#[]⟩⟩, ⟨2, 6, 8, 6, ⟨#[]⟩⟩, ⟨2, 0, 6, 0, ⟨#[]⟩⟩, ⟨4, 5, 5, 0, ⟨#[]⟩⟩, ⟨5, 5, -6, 0, ⟨#[]⟩⟩,
  ⟨2, 0, 0, 3, ⟨#[]⟩⟩, ⟨0, 2, 0, 0, ⟨#[48]⟩⟩, ⟨0, 3, 0, 0, ⟨#[48]⟩⟩, ⟨0, 6, 0, 0, ⟨#[48]⟩⟩, ⟨0, 7, 0, 0, ⟨#[48]⟩⟩, ⟨0, 8, 0, 0, ⟨#[48]⟩⟩, ⟨0, 9, 0, 0, ⟨#[48]⟩⟩, ⟨0, 10, 0, 0, ⟨#[48]⟩⟩]
end Go.Proofs.YtpnmmpfidiegcaaGreatDoor.C
end
section
namespace Go.Proofs.YtpnmmpfidiegcaaGreatDoor.C
open Go.RowKit Go.Proofs.YtpnmmpfidiegcaaGreatDoorW.PrintWords Go.Proofs.YtpnmmpfidiegcaaGreatDoorW.PrintLast Go.Proofs.YtpnmmpfidiegcaaGreatDoorW.PrintMore
attribute [local go_sem] max2_int min2_int max_two min_two max_three min_three max_four min_four
set_option linter.unusedVariables false
set_option linter.unusedSimpArgs false
def ring_list.l0 : Nat → List Int → List (List (S52)) → Int → Int → Option (ByteArray × Int)
 | 0, _, _, _, _ => none
 | k + 1, x4, x9, x10, x11 => if x11 < x10 then (if 0 ≤ x11 then (if x11 < (x9.length : Int) then ((code_Valid.f k (rd_L6 x9 x11)).bind fun t5 => (if t5 = true then ((code_Code.f k (rd_L6 x9 x11)).bind fun bt6 => (if bt6.2 = 0 then (if x4.length < 140737488355328 then ((some (x4 ++ [49] : List Int)).bind fun y8 => (if y8.length + bt6.1.size < 140737488355328 then ((some (y8 ++ bytesOf bt6.1 : List Int)).bind fun y11 => (if (y11.length : Int) ≥ 2000000 then (some ((⟨#[]⟩ : ByteArray), 3)) else (ring_list.l0 k y11 x9 x10 (wrap64 (x11 + 1))))) else (none))) else (none)) else (some ((⟨#[]⟩ : ByteArray), bt6.2)))) else (some ((⟨#[]⟩ : ByteArray), 3)))) else (none)) else (none)) else (if x4.length < 140737488355328 then (some (strOfNums (x4 ++ [48]), 0)) else (none))
def ring_list.f (k : Nat) (l0 : List (List (S52))) : Option (ByteArray × Int) := ring_list.l0 k ([] : List Int) l0 (l0.length : Int) 0
set_option maxHeartbeats 8000000 in
set_option maxRecDepth 100000 in
theorem ring_list.calls (k : Nat) (A0 : Option Addr) (c0 : Nat) (l0 : List (List (S52))) (r1 : ByteArray) (r2 : Int) (w : World) (hr0 : Kd.C (Kd.slice 52 k52) w A0 l0.length l0) (hc0 : l0.length ≤ c0) (h : ring_list.f k l0 = some (r1, r2)) :
  Calls Tryz.prog 25 #[.slice A0 l0.length c0] w fun e w' => e = .returned (.tuple #[.string r1, .int .i64 r2]) ∧ Below w.heap.size w w' := by
 have HR0 := Aside0.mk hr0
 have HC0 := Aside0.mk hc0
 clear hr0 hc0
 have HB := Aside0.mk (Below.refl w.heap.size w)
 have H : (ring_list.l0 k ([] : List Int) l0 (l0.length : Int) 0) = some (r1, r2) := h
 clear h
 have H' := Aside0.mk H
 clear H
 go_enter Tryz.func25, Tryz.ntmps25
 go_wp2
 go_loopg [4, 11] k (fun kq v4 v11 w' => ∃ (x4_1 : List Int) (x11_1 : Int), v11 = .int .i64 x11_1 ∧ Aside0 (ring_list.l0 kq x4_1 l0 (l0.length : Int) x11_1 = some (r1, r2)) ∧ Aside0 (kq ≤ k) ∧ Aside0 (Kd.R (Kd.int .u8) 5 w' w.heap.size (fun _ => True) v4 x4_1) ∧ Aside0 (Below w.heap.size w w'))
 case atStart => exact ⟨(([] : List Int)), (0), (by first | rfl | (simp; done) | (simp [*]; done)), H', ⟨Nat.le_refl _⟩, ⟨by first | exact Kd.R_nil _ _ _ _ _ | exact Kd.N_nil _ _ _ _ _ | exact Kd.V_nil _ _ _ _ _ | exact Kd.Q_nil _ _ _ _ _ | exact Kd.S_nil _ _ _ _ _⟩, ⟨by repeat (first | (with_reducible first | exact HB.out | apply below_alloc | apply pw_below_drewN | apply below_drew1) | exact HB.out)⟩⟩
 case round =>
  clear H'
  obtain ⟨x4_1, x11_1, rfl, HA, HK1, HO_4, HB⟩ := hrel
  cases gk with
  | zero => exact absurd HA.out (by simp [ring_list.l0])
  | succ k1 =>
   have H := HA.out
   clear HA
   simp only [ring_list.l0] at H
   by_cases c2 : x11_1 < (l0.length : Int)
   ·rw [if_pos c2] at H
    have c2b0 : decide (x11_1 < (l0.length : Int)) = true := decide_eq_true c2
    clear c2
    by_cases c3 : 0 ≤ x11_1
    ·rw [if_pos c3] at H
     have c3b0 : decide (0 ≤ x11_1) = true := decide_eq_true c3
     clear c3
     by_cases c4 : x11_1 < (l0.length : Int)
     ·rw [if_pos c4] at H
      have c4b0 : decide (x11_1 < (l0.length : Int)) = true := decide_eq_true c4
      clear c4
      replace H := Option.bind_eq_some_iff.mp H
      obtain ⟨t5, A50, H⟩ := H
      replace H : (if t5 = true then ((code_Code.f k1 (rd_L6 l0 x11_1)).bind fun bt6 => (if bt6.2 = 0 then (if x4_1.length < 140737488355328 then ((some (x4_1 ++ [49] : List Int)).bind fun y8 => (if y8.length + bt6.1.size < 140737488355328 then ((some (y8 ++ bytesOf bt6.1 : List Int)).bind fun y11 => (if (y11.length : Int) ≥ 2000000 then (some ((⟨#[]⟩ : ByteArray), 3)) else (ring_list.l0 k1 y11 l0 (l0.length : Int) (wrap64 (x11_1 + 1))))) else (none))) else (none)) else (some ((⟨#[]⟩ : ByteArray), bt6.2)))) else (some ((⟨#[]⟩ : ByteArray), 3))) = some (r1, r2) := H
      have A5 := Aside0.mk A50
      clear A50
      by_cases c6 : t5 = true
      ·subst c6
       have H1 : ((code_Code.f k1 (rd_L6 l0 x11_1)).bind fun bt6 => (if bt6.2 = 0 then (if x4_1.length < 140737488355328 then ((some (x4_1 ++ [49] : List Int)).bind fun y8 => (if y8.length + bt6.1.size < 140737488355328 then ((some (y8 ++ bytesOf bt6.1 : List Int)).bind fun y11 => (if (y11.length : Int) ≥ 2000000 then (some ((⟨#[]⟩ : ByteArray), 3)) else (ring_list.l0 k1 y11 l0 (l0.length : Int) (wrap64 (x11_1 + 1))))) else (none))) else (none)) else (some ((⟨#[]⟩ : ByteArray), bt6.2)))) = some (r1, r2) := by rw [if_pos rfl] at H; exact H
       clear H
       have H := H1
       clear H1
       replace H := Option.bind_eq_some_iff.mp H
       obtain ⟨⟨t6, t7⟩, A70, H⟩ := H
       replace H : (if t7 = 0 then (if x4_1.length < 140737488355328 then ((some (x4_1 ++ [49] : List Int)).bind fun y8 => (if y8.length + t6.size < 140737488355328 then ((some (y8 ++ bytesOf t6 : List Int)).bind fun y11 => (if (y11.length : Int) ≥ 2000000 then (some ((⟨#[]⟩ : ByteArray), 3)) else (ring_list.l0 k1 y11 l0 (l0.length : Int) (wrap64 (x11_1 + 1))))) else (none))) else (none)) else (some ((⟨#[]⟩ : ByteArray), t7))) = some (r1, r2) := H
       have A7 := Aside0.mk A70
       clear A70
       by_cases c8 : t7 = 0
       ·rw [if_pos c8] at H
        have c8b0 : (t7 == 0) = true := beq_iff_eq.mpr c8
        have c8b1 : (t7 != 0) = false := bne_eq_false_iff_eq.mpr c8
        clear c8
        by_cases c9 : x4_1.length < 140737488355328
        ·rw [if_pos c9] at H
         have LMc9 := Aside0.mk c9
         clear c9
         obtain ⟨y8, hy8⟩ : ∃ y_ : List Int, y_ = (x4_1 ++ [49]) := ⟨_, rfl⟩
         replace H : (if y8.length + t6.size < 140737488355328 then ((some (y8 ++ bytesOf t6 : List Int)).bind fun y11 => (if (y11.length : Int) ≥ 2000000 then (some ((⟨#[]⟩ : ByteArray), 3)) else (ring_list.l0 k1 y11 l0 (l0.length : Int) (wrap64 (x11_1 + 1))))) else (none)) = some (r1, r2) := by first | (rw [hy8]; with_reducible exact H) | (have H2_ := (Option.bind_some _ _).symm.trans H; rw [hy8]; with_reducible exact H2_) | (have H2_ := (Option.bind_some _ _).symm.trans H; with_reducible exact H2_) | with_reducible exact H | (rw [hy8]; exact H) | exact H
         have Ny8 := Aside0.mk hy8
         clear hy8
         by_cases c10 : y8.length + t6.size < 140737488355328
         ·rw [if_pos c10] at H
          have LMc10 := Aside0.mk c10
          clear c10
          obtain ⟨y11, hy11⟩ : ∃ y_ : List Int, y_ = (y8 ++ bytesOf t6) := ⟨_, rfl⟩
          replace H : (if (y11.length : Int) ≥ 2000000 then (some ((⟨#[]⟩ : ByteArray), 3)) else (ring_list.l0 k1 y11 l0 (l0.length : Int) (wrap64 (x11_1 + 1)))) = some (r1, r2) := by first | (rw [hy11]; with_reducible exact H) | (have H2_ := (Option.bind_some _ _).symm.trans H; rw [hy11]; with_reducible exact H2_) | (have H2_ := (Option.bind_some _ _).symm.trans H; with_reducible exact H2_) | with_reducible exact H | (rw [hy11]; exact H) | exact H
          have Ny11 := Aside0.mk hy11
          clear hy11
          by_cases c11 : (y11.length : Int) ≥ 2000000
          ·rw [if_pos c11] at H
           have c11b0 : decide (2000000 ≤ (y11.length : Int)) = true := decide_eq_true c11
           have c11b1 : decide (2000000 ≤ y11.length) = true := decide_eq_true (by omega)
           clear c11
           simp only [Option.some.injEq, Prod.mk.injEq] at H
           obtain ⟨rfl, rfl⟩ := H
           have p4 : 0 ≤ (x11_1 : Int) := of_decide_eq_true (by first | (with_reducible assumption) | assumption)
           have q4 : x11_1 < (l0.length : Int) := of_decide_eq_true (by first | (with_reducible assumption) | assumption)
           obtain ⟨ad4, A4_0, c4_0, e4, hx4_0, hl4_0, hi4_0⟩ := at_L6 HR0.out x11_1 p4 q4
           cases e4
           replace hx4_0 := (HB.out.cell (World.block_lt_of_cell? w _ hx4_0)).trans hx4_0
           have HR4_0 := Aside0.mk hi4_0
           have HC4_0 := Aside0.mk hl4_0
           clear hi4_0 hl4_0
           replace p4 := eq_true p4
           replace q4 := eq_true q4
           go_wp2_with (first | ((with_reducible refine gate_callee (f := 23) rfl ?_); refine goesL_ (some 16) rfl rfl Tryz.func23 (by kernel_rfl) rfl #[.slice A4_0 (rd_L6 l0 x11_1).length c4_0] rfl (by (try simp only [List.map_toArray, List.map_cons, List.map_nil]); first | done | rfl | (simp only [List.length_drop, List.length_take]; rfl)) ?_; (with_reducible refine (code_Valid.calls k1 _ _ (rd_L6 l0 x11_1) true _ ?side1 ?side2 A5.out).mono ?_); (case side1 => repeat (first | exact (Kd.C_below HR4_0.out HB.out) | (with_reducible refine Kd.C_alloc ?_ _) | (with_reducible refine Kd.C_drewN ?_ _) | (with_reducible refine Kd.C_drew ?_))); (case side2 => exact HC4_0.out); rintro e w12 ⟨rfl, hb⟩; refine ⟨_, rfl, ?_⟩; have n0_ := Aside0.mk (Kd.R_below (by (with_reducible repeat (first | apply Kd.R_alloc | apply Kd.R_drewN | apply Kd.R_drew)); exact HO_4.out) hb); have n1_ := Aside0.mk (below_step (by repeat (first | (with_reducible first | exact HB.out | apply below_alloc | apply pw_below_drewN | apply below_drew1) | exact HB.out)) hb); clear HO_4; clear HB; have HO_4 := n0_; have HB := n1_; clear n0_ n1_; (try clear hb); (try clear hb2); (try clear hk); (try clear hi)) | ((with_reducible refine gate_callee (f := 34) rfl ?_); refine goesL_ (some 20) rfl rfl Tryz.func34 (by kernel_rfl) rfl #[.slice A4_0 (rd_L6 l0 x11_1).length c4_0] rfl (by (try simp only [List.map_toArray, List.map_cons, List.map_nil]); first | done | rfl | (simp only [List.length_drop, List.length_take]; rfl)) ?_; (with_reducible refine (code_Code.calls k1 _ _ (rd_L6 l0 x11_1) t6 t7 _ ?side1 ?side2 A7.out).mono ?_); (case side1 => repeat (first | exact (Kd.C_below HR4_0.out HB.out) | (with_reducible refine Kd.C_alloc ?_ _) | (with_reducible refine Kd.C_drewN ?_ _) | (with_reducible refine Kd.C_drew ?_))); (case side2 => exact HC4_0.out); rintro e w13 ⟨rfl, hb⟩; refine ⟨_, rfl, ?_⟩; have n0_ := Aside0.mk (Kd.R_below (by (with_reducible repeat (first | apply Kd.R_alloc | apply Kd.R_drewN | apply Kd.R_drew)); exact HO_4.out) hb); have n1_ := Aside0.mk (below_step (by repeat (first | (with_reducible first | exact HB.out | apply below_alloc | apply pw_below_drewN | apply below_drew1) | exact HB.out)) hb); clear HO_4; clear HB; have HO_4 := n0_; have HB := n1_; clear n0_ n1_; (try clear hb); (try clear hb2); (try clear hk); (try clear hi)) | ((with_reducible refine gate_builtin (b := .append) (xs := #[.tmp 26, .tmp 27]) rfl ?_); at_builtin; refine Kd.R_append (Kd.int .u8) (w0 := w) w.heap.size rfl (.tmp 26) (.tmp 27) 68 5 (.int .u8 0) 1 rfl Tryz.underlying68 info5 rfl (by decide) (by omega) u4 x4_1 49 [.int .u8 49] (fun _ => True) (fun _ => False) rfl rfl ?aP (fun _ hk => hk.elim) ?aF ?aO ?aB ?aS ?aL ?_; (case aP => exact rfl); (case aB => exact (by repeat (first | (with_reducible first | exact HB.out | apply below_alloc | apply pw_below_drewN | apply below_drew1) | exact HB.out))); (case aF => exact (fun _ _ => trivial)); (case aO => exact (by (with_reducible repeat (first | apply Kd.R_alloc | apply Kd.R_drewN | apply Kd.R_drew)); exact HO_4.out)); (case aS => exact (below_size (by repeat (first | (with_reducible first | exact HB.out | apply below_alloc | apply pw_below_drewN | apply below_drew1) | exact HB.out)))); (case aL => have := LMc9.out; first | omega | (simp only [lit_size, List.size_toArray, List.length_cons, List.length_nil]; omega)); intro v9 w14 ho hb hg hat; rw [← Ny8.out] at ho; have n0_ := Aside0.mk (hb); have n1_ := Aside0.mk (ho); clear HB; clear HO_4; have HB := n0_; have HO10 := n1_; clear n0_ n1_; clear ho hb hg hat) | (at_builtin; refine print_append_str (w0 := w) w.heap.size rfl (.tmp 28) _ 68 9 5 rfl Tryz.underlying68 Tryz.underlying9 info5 v9 y8 t6 rfl rfl ?aO ?aB ?aS ?aL ?_; (case aB => exact (by repeat (first | (with_reducible first | exact HB.out | apply below_alloc | apply pw_below_drewN | apply below_drew1) | exact HB.out))); (case aO => exact (Kd.own_of_R (by (with_reducible repeat (first | apply Kd.R_alloc | apply Kd.R_drewN | apply Kd.R_drew)); exact HO10.out))); (case aS => exact (below_size (by repeat (first | (with_reducible first | exact HB.out | apply below_alloc | apply pw_below_drewN | apply below_drew1) | exact HB.out)))); (case aL => have := LMc10.out; first | omega | (simp only [lit_size, List.size_toArray, List.length_cons, List.length_nil]; omega)); intro v12 w15 ho0 hb hg; have ho := Kd.R_of_own (h1 := fun _ => rfl) (ok := fun _ => True) ho0 (fun _ _ => trivial); clear ho0; have hat := True.intro; rw [← Ny11.out] at ho; change Kd.R (Kd.int .u8) 5 w15 w.heap.size (fun _ => True) v12 y11 at ho; have n0_ := Aside0.mk (hb); have n1_ := Aside0.mk (ho); clear HB; clear HO10; have HB := n0_; have HO13 := n1_; clear n0_ n1_; clear ho hb hg hat; obtain ⟨Ao16, co16, eo16⟩ := Kd.R_slice HO13.out; subst eo16))
           go_ret2
           exact ⟨by first | rfl | (simp [errW_none, errW_some] <;> rfl) | (simp [*, errW_none, errW_some] <;> rfl), by repeat (first | (with_reducible first | exact HB.out | apply below_alloc | apply pw_below_drewN | apply below_drew1) | exact HB.out)⟩
          ·rw [if_neg c11] at H
           have c11b0 : decide (2000000 ≤ (y11.length : Int)) = false := decide_eq_false c11
           have c11b1 : decide (2000000 ≤ y11.length) = false := decide_eq_false (by omega)
           clear c11
           have H' := Aside0.mk H
           clear H
           have p4 : 0 ≤ (x11_1 : Int) := of_decide_eq_true (by first | (with_reducible assumption) | assumption)
           have q4 : x11_1 < (l0.length : Int) := of_decide_eq_true (by first | (with_reducible assumption) | assumption)
           obtain ⟨ad4, A4_0, c4_0, e4, hx4_0, hl4_0, hi4_0⟩ := at_L6 HR0.out x11_1 p4 q4
           cases e4
           replace hx4_0 := (HB.out.cell (World.block_lt_of_cell? w _ hx4_0)).trans hx4_0
           have HR4_0 := Aside0.mk hi4_0
           have HC4_0 := Aside0.mk hl4_0
           clear hi4_0 hl4_0
           replace p4 := eq_true p4
           replace q4 := eq_true q4
           go_wp2_with (first | ((with_reducible refine gate_callee (f := 23) rfl ?_); refine goesL_ (some 16) rfl rfl Tryz.func23 (by kernel_rfl) rfl #[.slice A4_0 (rd_L6 l0 x11_1).length c4_0] rfl (by (try simp only [List.map_toArray, List.map_cons, List.map_nil]); first | done | rfl | (simp only [List.length_drop, List.length_take]; rfl)) ?_; (with_reducible refine (code_Valid.calls k1 _ _ (rd_L6 l0 x11_1) true _ ?side1 ?side2 A5.out).mono ?_); (case side1 => repeat (first | exact (Kd.C_below HR4_0.out HB.out) | (with_reducible refine Kd.C_alloc ?_ _) | (with_reducible refine Kd.C_drewN ?_ _) | (with_reducible refine Kd.C_drew ?_))); (case side2 => exact HC4_0.out); rintro e w17 ⟨rfl, hb⟩; refine ⟨_, rfl, ?_⟩; have n0_ := Aside0.mk (Kd.R_below (by (with_reducible repeat (first | apply Kd.R_alloc | apply Kd.R_drewN | apply Kd.R_drew)); exact HO_4.out) hb); have n1_ := Aside0.mk (below_step (by repeat (first | (with_reducible first | exact HB.out | apply below_alloc | apply pw_below_drewN | apply below_drew1) | exact HB.out)) hb); clear HO_4; clear HB; have HO_4 := n0_; have HB := n1_; clear n0_ n1_; (try clear hb); (try clear hb2); (try clear hk); (try clear hi)) | ((with_reducible refine gate_callee (f := 34) rfl ?_); refine goesL_ (some 20) rfl rfl Tryz.func34 (by kernel_rfl) rfl #[.slice A4_0 (rd_L6 l0 x11_1).length c4_0] rfl (by (try simp only [List.map_toArray, List.map_cons, List.map_nil]); first | done | rfl | (simp only [List.length_drop, List.length_take]; rfl)) ?_; (with_reducible refine (code_Code.calls k1 _ _ (rd_L6 l0 x11_1) t6 t7 _ ?side1 ?side2 A7.out).mono ?_); (case side1 => repeat (first | exact (Kd.C_below HR4_0.out HB.out) | (with_reducible refine Kd.C_alloc ?_ _) | (with_reducible refine Kd.C_drewN ?_ _) | (with_reducible refine Kd.C_drew ?_))); (case side2 => exact HC4_0.out); rintro e w18 ⟨rfl, hb⟩; refine ⟨_, rfl, ?_⟩; have n0_ := Aside0.mk (Kd.R_below (by (with_reducible repeat (first | apply Kd.R_alloc | apply Kd.R_drewN | apply Kd.R_drew)); exact HO_4.out) hb); have n1_ := Aside0.mk (below_step (by repeat (first | (with_reducible first | exact HB.out | apply below_alloc | apply pw_below_drewN | apply below_drew1) | exact HB.out)) hb); clear HO_4; clear HB; have HO_4 := n0_; have HB := n1_; clear n0_ n1_; (try clear hb); (try clear hb2); (try clear hk); (try clear hi)) | ((with_reducible refine gate_builtin (b := .append) (xs := #[.tmp 26, .tmp 27]) rfl ?_); at_builtin; refine Kd.R_append (Kd.int .u8) (w0 := w) w.heap.size rfl (.tmp 26) (.tmp 27) 68 5 (.int .u8 0) 1 rfl Tryz.underlying68 info5 rfl (by decide) (by omega) u4 x4_1 49 [.int .u8 49] (fun _ => True) (fun _ => False) rfl rfl ?aP (fun _ hk => hk.elim) ?aF ?aO ?aB ?aS ?aL ?_; (case aP => exact rfl); (case aB => exact (by repeat (first | (with_reducible first | exact HB.out | apply below_alloc | apply pw_below_drewN | apply below_drew1) | exact HB.out))); (case aF => exact (fun _ _ => trivial)); (case aO => exact (by (with_reducible repeat (first | apply Kd.R_alloc | apply Kd.R_drewN | apply Kd.R_drew)); exact HO_4.out)); (case aS => exact (below_size (by repeat (first | (with_reducible first | exact HB.out | apply below_alloc | apply pw_below_drewN | apply below_drew1) | exact HB.out)))); (case aL => have := LMc9.out; first | omega | (simp only [lit_size, List.size_toArray, List.length_cons, List.length_nil]; omega)); intro v9 w19 ho hb hg hat; rw [← Ny8.out] at ho; have n0_ := Aside0.mk (hb); have n1_ := Aside0.mk (ho); clear HB; clear HO_4; have HB := n0_; have HO10 := n1_; clear n0_ n1_; clear ho hb hg hat) | (at_builtin; refine print_append_str (w0 := w) w.heap.size rfl (.tmp 28) _ 68 9 5 rfl Tryz.underlying68 Tryz.underlying9 info5 v9 y8 t6 rfl rfl ?aO ?aB ?aS ?aL ?_; (case aB => exact (by repeat (first | (with_reducible first | exact HB.out | apply below_alloc | apply pw_below_drewN | apply below_drew1) | exact HB.out))); (case aO => exact (Kd.own_of_R (by (with_reducible repeat (first | apply Kd.R_alloc | apply Kd.R_drewN | apply Kd.R_drew)); exact HO10.out))); (case aS => exact (below_size (by repeat (first | (with_reducible first | exact HB.out | apply below_alloc | apply pw_below_drewN | apply below_drew1) | exact HB.out)))); (case aL => have := LMc10.out; first | omega | (simp only [lit_size, List.size_toArray, List.length_cons, List.length_nil]; omega)); intro v12 w20 ho0 hb hg; have ho := Kd.R_of_own (h1 := fun _ => rfl) (ok := fun _ => True) ho0 (fun _ _ => trivial); clear ho0; have hat := True.intro; rw [← Ny11.out] at ho; change Kd.R (Kd.int .u8) 5 w20 w.heap.size (fun _ => True) v12 y11 at ho; have n0_ := Aside0.mk (hb); have n1_ := Aside0.mk (ho); clear HB; clear HO10; have HB := n0_; have HO13 := n1_; clear n0_ n1_; clear ho hb hg hat; obtain ⟨Ao21, co21, eo21⟩ := Kd.R_slice HO13.out; subst eo21))
           go_roundg k1
           case measure => have := HK1.out; omega
           case rel => exact ⟨(y11), (wrap64 (x11_1 + 1)), (by first | rfl | (simp; done) | (simp [*]; done)), H', ⟨by have := HK1.out; omega⟩, ⟨by (with_reducible repeat (first | apply Kd.R_alloc | apply Kd.R_drewN | apply Kd.R_drew)); exact HO13.out⟩, ⟨by repeat (first | (with_reducible first | exact HB.out | apply below_alloc | apply pw_below_drewN | apply below_drew1) | exact HB.out)⟩⟩
         ·rw [if_neg c10] at H
          exact absurd H (by simp)
        ·rw [if_neg c9] at H
         exact absurd H (by simp)
       ·rw [if_neg c8] at H
        have c8b0 : (t7 == 0) = false := beq_eq_false_iff_ne.mpr c8
        have c8b1 : (t7 != 0) = true := bne_iff_ne.mpr c8
        simp only [Option.some.injEq, Prod.mk.injEq] at H
        obtain ⟨rfl, rfl⟩ := H
        have p4 : 0 ≤ (x11_1 : Int) := of_decide_eq_true (by first | (with_reducible assumption) | assumption)
        have q4 : x11_1 < (l0.length : Int) := of_decide_eq_true (by first | (with_reducible assumption) | assumption)
        obtain ⟨ad4, A4_0, c4_0, e4, hx4_0, hl4_0, hi4_0⟩ := at_L6 HR0.out x11_1 p4 q4
        cases e4
        replace hx4_0 := (HB.out.cell (World.block_lt_of_cell? w _ hx4_0)).trans hx4_0
        have HR4_0 := Aside0.mk hi4_0
        have HC4_0 := Aside0.mk hl4_0
        clear hi4_0 hl4_0
        replace p4 := eq_true p4
        replace q4 := eq_true q4
        go_wp2_with (first | ((with_reducible refine gate_callee (f := 23) rfl ?_); refine goesL_ (some 16) rfl rfl Tryz.func23 (by kernel_rfl) rfl #[.slice A4_0 (rd_L6 l0 x11_1).length c4_0] rfl (by (try simp only [List.map_toArray, List.map_cons, List.map_nil]); first | done | rfl | (simp only [List.length_drop, List.length_take]; rfl)) ?_; (with_reducible refine (code_Valid.calls k1 _ _ (rd_L6 l0 x11_1) true _ ?side1 ?side2 A5.out).mono ?_); (case side1 => repeat (first | exact (Kd.C_below HR4_0.out HB.out) | (with_reducible refine Kd.C_alloc ?_ _) | (with_reducible refine Kd.C_drewN ?_ _) | (with_reducible refine Kd.C_drew ?_))); (case side2 => exact HC4_0.out); rintro e w22 ⟨rfl, hb⟩; refine ⟨_, rfl, ?_⟩; have n0_ := Aside0.mk (Kd.R_below (by (with_reducible repeat (first | apply Kd.R_alloc | apply Kd.R_drewN | apply Kd.R_drew)); exact HO_4.out) hb); have n1_ := Aside0.mk (below_step (by repeat (first | (with_reducible first | exact HB.out | apply below_alloc | apply pw_below_drewN | apply below_drew1) | exact HB.out)) hb); clear HO_4; clear HB; have HO_4 := n0_; have HB := n1_; clear n0_ n1_; (try clear hb); (try clear hb2); (try clear hk); (try clear hi)) | ((with_reducible refine gate_callee (f := 34) rfl ?_); refine goesL_ (some 20) rfl rfl Tryz.func34 (by kernel_rfl) rfl #[.slice A4_0 (rd_L6 l0 x11_1).length c4_0] rfl (by (try simp only [List.map_toArray, List.map_cons, List.map_nil]); first | done | rfl | (simp only [List.length_drop, List.length_take]; rfl)) ?_; (with_reducible refine (code_Code.calls k1 _ _ (rd_L6 l0 x11_1) t6 t7 _ ?side1 ?side2 A7.out).mono ?_); (case side1 => repeat (first | exact (Kd.C_below HR4_0.out HB.out) | (with_reducible refine Kd.C_alloc ?_ _) | (with_reducible refine Kd.C_drewN ?_ _) | (with_reducible refine Kd.C_drew ?_))); (case side2 => exact HC4_0.out); rintro e w23 ⟨rfl, hb⟩; refine ⟨_, rfl, ?_⟩; have n0_ := Aside0.mk (Kd.R_below (by (with_reducible repeat (first | apply Kd.R_alloc | apply Kd.R_drewN | apply Kd.R_drew)); exact HO_4.out) hb); have n1_ := Aside0.mk (below_step (by repeat (first | (with_reducible first | exact HB.out | apply below_alloc | apply pw_below_drewN | apply below_drew1) | exact HB.out)) hb); clear HO_4; clear HB; have HO_4 := n0_; have HB := n1_; clear n0_ n1_; (try clear hb); (try clear hb2); (try clear hk); (try clear hi)))
        go_ret2
        exact ⟨by first | rfl | (simp [errW_none, errW_some] <;> rfl) | (simp [*, errW_none, errW_some] <;> rfl), by repeat (first | (with_reducible first | exact HB.out | apply below_alloc | apply pw_below_drewN | apply below_drew1) | exact HB.out)⟩
      ·replace c6 := Bool.eq_false_iff.mpr c6
       subst c6
       have H1 : (some ((⟨#[]⟩ : ByteArray), 3)) = some (r1, r2) := by rw [if_neg (show ¬ (false = true) by decide)] at H; exact H
       clear H
       have H := H1
       clear H1
       simp only [Option.some.injEq, Prod.mk.injEq] at H
       obtain ⟨rfl, rfl⟩ := H
       have p4 : 0 ≤ (x11_1 : Int) := of_decide_eq_true (by first | (with_reducible assumption) | assumption)
       have q4 : x11_1 < (l0.length : Int) := of_decide_eq_true (by first | (with_reducible assumption) | assumption)
       obtain ⟨ad4, A4_0, c4_0, e4, hx4_0, hl4_0, hi4_0⟩ := at_L6 HR0.out x11_1 p4 q4
       cases e4
       replace hx4_0 := (HB.out.cell (World.block_lt_of_cell? w _ hx4_0)).trans hx4_0
       have HR4_0 := Aside0.mk hi4_0
       have HC4_0 := Aside0.mk hl4_0
       clear hi4_0 hl4_0
       replace p4 := eq_true p4
       replace q4 := eq_true q4
       go_wp2_with (first | ((with_reducible refine gate_callee (f := 23) rfl ?_); refine goesL_ (some 16) rfl rfl Tryz.func23 (by kernel_rfl) rfl #[.slice A4_0 (rd_L6 l0 x11_1).length c4_0] rfl (by (try simp only [List.map_toArray, List.map_cons, List.map_nil]); first | done | rfl | (simp only [List.length_drop, List.length_take]; rfl)) ?_; (with_reducible refine (code_Valid.calls k1 _ _ (rd_L6 l0 x11_1) false _ ?side1 ?side2 A5.out).mono ?_); (case side1 => repeat (first | exact (Kd.C_below HR4_0.out HB.out) | (with_reducible refine Kd.C_alloc ?_ _) | (with_reducible refine Kd.C_drewN ?_ _) | (with_reducible refine Kd.C_drew ?_))); (case side2 => exact HC4_0.out); rintro e w24 ⟨rfl, hb⟩; refine ⟨_, rfl, ?_⟩; have n0_ := Aside0.mk (Kd.R_below (by (with_reducible repeat (first | apply Kd.R_alloc | apply Kd.R_drewN | apply Kd.R_drew)); exact HO_4.out) hb); have n1_ := Aside0.mk (below_step (by repeat (first | (with_reducible first | exact HB.out | apply below_alloc | apply pw_below_drewN | apply below_drew1) | exact HB.out)) hb); clear HO_4; clear HB; have HO_4 := n0_; have HB := n1_; clear n0_ n1_; (try clear hb); (try clear hb2); (try clear hk); (try clear hi)))
       go_ret2
       exact ⟨by first | rfl | (simp [errW_none, errW_some] <;> rfl) | (simp [*, errW_none, errW_some] <;> rfl), by repeat (first | (with_reducible first | exact HB.out | apply below_alloc | apply pw_below_drewN | apply below_drew1) | exact HB.out)⟩
     ·rw [if_neg c4] at H
      exact absurd H (by simp)
    ·rw [if_neg c3] at H
     exact absurd H (by simp)
   ·rw [if_neg c2] at H
    have c2b0 : decide (x11_1 < (l0.length : Int)) = false := decide_eq_false c2
    clear c2
    by_cases c25 : x4_1.length < 140737488355328
    ·rw [if_pos c25] at H
     have LMc25 := Aside0.mk c25
     clear c25
     obtain ⟨y1, hy1⟩ : ∃ y_ : List Int, y_ = (x4_1 ++ [48]) := ⟨_, rfl⟩
     replace H : (some (strOfNums y1, 0)) = some (r1, r2) := by first | (rw [hy1]; with_reducible exact H) | (have H2_ := (Option.bind_some _ _).symm.trans H; rw [hy1]; with_reducible exact H2_) | (have H2_ := (Option.bind_some _ _).symm.trans H; with_reducible exact H2_) | with_reducible exact H | (rw [hy1]; exact H) | exact H
     have Ny1 := Aside0.mk hy1
     clear hy1
     simp only [Option.some.injEq, Prod.mk.injEq] at H
     obtain ⟨rfl, rfl⟩ := H
     go_wp2_with (first | ((with_reducible refine gate_builtin (b := .append) (xs := #[.tmp 35, .tmp 36]) rfl ?_); at_builtin; refine Kd.R_append (Kd.int .u8) (w0 := w) w.heap.size rfl (.tmp 35) (.tmp 36) 68 5 (.int .u8 0) 1 rfl Tryz.underlying68 info5 rfl (by decide) (by omega) u4 x4_1 48 [.int .u8 48] (fun _ => True) (fun _ => False) rfl rfl ?aP (fun _ hk => hk.elim) ?aF ?aO ?aB ?aS ?aL ?_; (case aP => exact rfl); (case aB => exact (by repeat (first | (with_reducible first | exact HB.out | apply below_alloc | apply pw_below_drewN | apply below_drew1) | exact HB.out))); (case aF => exact (fun _ _ => trivial)); (case aO => exact (by (with_reducible repeat (first | apply Kd.R_alloc | apply Kd.R_drewN | apply Kd.R_drew)); exact HO_4.out)); (case aS => exact (below_size (by repeat (first | (with_reducible first | exact HB.out | apply below_alloc | apply pw_below_drewN | apply below_drew1) | exact HB.out)))); (case aL => have := LMc25.out; first | omega | (simp only [lit_size, List.size_toArray, List.length_cons, List.length_nil]; omega)); intro v2 w26 ho hb hg hat; rw [← Ny1.out] at ho; have n0_ := Aside0.mk (hb); have n1_ := Aside0.mk (ho); clear HB; clear HO_4; have HB := n0_; have HO3 := n1_; clear n0_ n1_; clear ho hb hg hat; have hcv27 := own_string (P := Tryz.prog) Tryz.underlying68 Tryz.underlying5 Tryz.underlying9 (Kd.own_of_R HO3.out)))
     go_ret2
     exact ⟨by first | rfl | (simp [errW_none, errW_some] <;> rfl) | (simp [*, errW_none, errW_some] <;> rfl), by repeat (first | (with_reducible first | exact HB.out | apply below_alloc | apply pw_below_drewN | apply below_drew1) | exact HB.out)⟩
    ·rw [if_neg c25] at H
     exact absurd H (by simp)
end Go.Proofs.YtpnmmpfidiegcaaGreatDoor.C
end
section
namespace Go.Proofs.YtpnmmpfidiegcaaGreatDoor.Plain
open Go.Proofs.YtpnmmpfidiegcaaGreatDoor.C
open Go.RowKit Go.Proofs.YtpnmmpfidiegcaaGreatDoorW.PrintWords Go.Proofs.YtpnmmpfidiegcaaGreatDoorW.PrintLast Go.Proofs.YtpnmmpfidiegcaaGreatDoorW.PrintMore
set_option linter.unusedVariables false
set_option linter.unusedSimpArgs false
def VI (p : List Ins) : Prop := ∀ j (h : j < p.length), Right p[j] j p.length
theorem rd_ins (p : List Ins) (j : Nat) (h : j < p.length) : rd_T52 p (j : Int) = p[j] := rd_at p j h
theorem okp_iff {p : List Ins} : OKP p ↔ p.length ≤ 4000 ∧ sizes p ≤ 2000000 ∧ VI p := by
  unfold OKP VI
  exact and_congr_right fun _ => and_congr_right fun _ => ⟨fun h j hj => by rw [← rd_ins p j hj]; exact h j hj, fun h j hj => by rw [rd_ins p j hj]; exact h j hj⟩
theorem right_wider {x : Ins} {i m n : Int} (h : Right x i m) (hmn : m ≤ n) : Right x i n := by
  unfold Right at *
  rcases h with h | h | h | h
  · exact .inl h
  · exact .inr (.inl h)
  · exact .inr (.inr (.inl h))
  · exact .inr (.inr (.inr ⟨h.1, h.2.1, h.2.2.1, by omega, h.2.2.2.2⟩))
theorem right_on {x : Ins} {i n : Int} (m : Int) (hm : 0 ≤ m) (h : Right x i n) : Right x (m + i) (m + n) := by
  unfold Right at *
  rcases h with h | h | h | h
  · exact .inl h
  · exact .inr (.inl h)
  · exact .inr (.inr (.inl h))
  · exact .inr (.inr (.inr ⟨h.1, h.2.1, by omega, by omega, h.2.2.2.2⟩))
theorem vi_append {p q : List Ins} (hp : VI p) (hq : VI q) : VI (p ++ q) := by
  intro j hj
  rw [List.length_append] at hj
  by_cases h : j < p.length
  · rw [List.getElem_append_left h, List.length_append]
    exact right_wider (hp j h) (by omega)
  · rw [List.getElem_append_right (by omega), List.length_append]
    have := right_on (p.length : Int) (by omega) (hq (j - p.length) (by omega))
    rw [show (p.length : Int) + ((j - p.length : Nat) : Int) = (j : Int) from by omega] at this
    simpa using this
def rightB (x : Ins) (i n : Int) : Bool :=
  decide (0 ≤ x.f1 ∧ x.f1 < 32) && (
  (x.f0 == 0 && x.f2 == 0 && x.f3 == 0 && decide (x.f4.size ≤ 2000000) && endL (bl x.f4) 1 0 == some (bl x.f4).length) ||
  ((x.f0 == 1 || x.f0 == 3 || x.f0 == 4) && decide (0 ≤ x.f2 ∧ x.f2 < 32) && x.f3 == 0 && (bl x.f4).isEmpty) ||
  (x.f0 == 2 && decide (0 ≤ x.f2 ∧ x.f2 < 32) && decide (0 ≤ x.f3 ∧ x.f3 < 32) && (bl x.f4).isEmpty) ||
  (x.f0 == 5 && decide (-i ≤ x.f2) && decide (x.f2 ≤ n - i) && x.f3 == 0 && (bl x.f4).isEmpty))
theorem right_of_B {x : Ins} {i n : Int} (h : rightB x i n = true) : Right x i n := by
  unfold rightB at h
  simp only [Bool.and_eq_true, Bool.or_eq_true, decide_eq_true_eq, beq_iff_eq, List.isEmpty_iff] at h
  obtain ⟨h1, h⟩ := h
  unfold Right Reg ValidT
  rcases h with ((h | h) | h) | h
  · exact .inl ⟨h.1.1.1.1, h1, h.1.1.1.2, h.1.1.2, h.1.2, isT_iff.2 h.2⟩
  · exact .inr (.inl ⟨by have := h.1.1.1; omega, h1, h.1.1.2, h.1.2, h.2⟩)
  · exact .inr (.inr (.inl ⟨h.1.1.1, h1, h.1.1.2, h.1.2, h.2⟩))
  · exact .inr (.inr (.inr ⟨h.1.1.1.1, h1, h.1.1.1.2, h.1.1.2, h.1.2, h.2⟩))
def viB (p : List Ins) (n : Int) : Nat → List Ins → Bool
  | _, [] => true
  | i, x :: l => rightB x i n && viB p n (i + 1) l
theorem vi_of_B : ∀ (l : List Ins) (p : List Ins) (n : Int) (i : Nat), viB p n i l = true → ∀ j (h : j < l.length), Right l[j] ((i + j : Nat) : Int) n
  | x :: l, p, n, i, h, 0, _ => by
    unfold viB at h
    rw [Bool.and_eq_true] at h
    exact right_of_B h.1
  | x :: l, p, n, i, h, j + 1, hj => by
    unfold viB at h
    rw [Bool.and_eq_true] at h
    have := vi_of_B l p n (i + 1) h.2 j (by simpa using hj)
    rw [show i + 1 + j = i + (j + 1) from by omega] at this
    exact this
theorem vi_ringHead : VI ringHead := fun j hj => by
  have := vi_of_B ringHead ringHead ringHead.length 0 (by decide +kernel) j hj
  rwa [Nat.zero_add] at this
theorem ringHead_length : ringHead.length = 30 := rfl
def specHead (y : ByteArray) : List Ins := [⟨0, 1, 0, 0, y⟩, ⟨2, 0, 1, 0, ⟨#[]⟩⟩, ⟨0, 1, 0, 0, ⟨#[48]⟩⟩]
theorem vi_specHead {y : ByteArray} (h : ValidT y) : VI (specHead y) := by
  intro j hj
  match j, hj with
  | 0, _ => exact .inl ⟨rfl, ⟨show (0 : Int) ≤ 1 by decide, show (1 : Int) < 32 by decide⟩, rfl, rfl, h⟩
  | 1, _ => exact .inr (.inr (.inl ⟨rfl, ⟨show (0 : Int) ≤ 0 by decide, show (0 : Int) < 32 by decide⟩, ⟨show (0 : Int) ≤ 1 by decide, show (1 : Int) < 32 by decide⟩, ⟨show (0 : Int) ≤ 0 by decide, show (0 : Int) < 32 by decide⟩, rfl⟩))
  | 2, _ => exact .inl ⟨rfl, ⟨show (0 : Int) ≤ 1 by decide, show (1 : Int) < 32 by decide⟩, rfl, rfl, ⟨show (⟨#[48]⟩ : ByteArray).size ≤ 2000000 by decide, isT_nil⟩⟩
def lsum : List (List Ins) → Nat
  | [] => 0
  | e :: l => 1 + (codeL e).length + lsum l
def tabL (rs : List (List Ins)) : List UInt8 := lst (rs.map codeL)
theorem tabL_length : ∀ l, (tabL l).length = lsum l + 1
  | [] => rfl
  | e :: l => by
    have := tabL_length l
    unfold tabL at *
    simp only [List.map_cons, lst, List.length_cons, List.length_append, lsum, this]
    omega
def GoodL (l : List (List Ins)) : Prop := (∀ e ∈ l, OKP e) ∧ lsum l < 2000000
theorem rd_prg (l : List (List Ins)) (i : Nat) (h : i < l.length) : rd_L6 l (i : Int) = l[i] := by unfold rd_L6; simp [h]
open Classical in
theorem ringList_l (l : List (List Ins)) (hl : l.length ≤ 1000) : ∀ (d k i : Nat) (xs : List Int), l.length - i = d → i ≤ l.length → d + 4020 < k → xs.length < 2000000 →
    ((∀ e ∈ l.drop i, OKP e) ∧ xs.length + lsum (l.drop i) < 2000000 → ∃ r, ring_list.l0 k xs l (l.length : Int) (i : Int) = some (r, 0) ∧ bl r = xs.map (fun n => UInt8.ofNat n.toNat) ++ tabL (l.drop i)) ∧
    (¬ ((∀ e ∈ l.drop i, OKP e) ∧ xs.length + lsum (l.drop i) < 2000000) → ring_list.l0 k xs l (l.length : Int) (i : Int) = some (⟨#[]⟩, 3))
  | d, k, i, xs, hd, hi, hk, hx => by
    obtain ⟨k, rfl⟩ : ∃ m, k = m + 1 := ⟨k - 1, by omega⟩
    by_cases hlt : i < l.length
    · have hdrop : l.drop i = l[i] :: l.drop (i + 1) := List.drop_eq_getElem_cons hlt
      have hstep : ring_list.l0 (k + 1) xs l (l.length : Int) (i : Int) = (code_Valid.f k l[i]).bind fun t5 => (if t5 = true then ((code_Code.f k l[i]).bind fun bt6 => (if bt6.2 = 0 then ((some (xs ++ [49] : List Int)).bind fun y8 => (if y8.length + bt6.1.size < 140737488355328 then ((some (y8 ++ bytesOf bt6.1 : List Int)).bind fun y11 => (if (y11.length : Int) ≥ 2000000 then (some ((⟨#[]⟩ : ByteArray), 3)) else (ring_list.l0 k y11 l (l.length : Int) (wrap64 ((i : Int) + 1))))) else (none))) else (some ((⟨#[]⟩ : ByteArray), bt6.2)))) else (some ((⟨#[]⟩ : ByteArray), 3))) := by
        rw [ring_list.l0, if_pos (by omega), if_pos (by omega), if_pos (by omega), rd_prg l i hlt]
        simp only [if_pos (show xs.length < 140737488355328 by omega)]
      by_cases hok : OKP l[i]
      · have hsm := codeL_small hok
        rw [hstep, validp_yes (by omega) hok, Option.bind_some, if_pos rfl, code_yes (by omega) hok, hdrop]
        by_cases hz : 2000000 < (codeL l[i]).length
        · rw [if_pos hz, Option.bind_some, if_neg (by decide)]
          refine ⟨fun h => ?_, fun _ => rfl⟩
          have := h.2
          simp only [lsum] at this
          omega
        · rw [if_neg hz, Option.bind_some, if_pos rfl, Option.bind_some, List.length_append, List.length_singleton, bs_size, if_pos (by omega), Option.bind_some, List.length_append, List.length_append, List.length_singleton, bytesOf_length, bs_size]
          by_cases hy : ((xs.length + 1 + (codeL l[i]).length : Nat) : Int) ≥ 2000000
          · rw [if_pos hy]
            refine ⟨fun h => ?_, fun _ => rfl⟩
            have := h.2
            simp only [lsum] at this
            omega
          · rw [if_neg hy, wrap_small (by omega) (by omega), show (i : Int) + 1 = ((i + 1 : Nat) : Int) from rfl]
            have hn : (xs ++ [49] ++ bytesOf (bs (codeL l[i]))).length = xs.length + 1 + (codeL l[i]).length := by rw [List.length_append, List.length_append, List.length_singleton, bytesOf_length, bs_size]
            obtain ⟨h1, h2⟩ := ringList_l l hl (l.length - (i + 1)) k (i + 1) (xs ++ [49] ++ bytesOf (bs (codeL l[i]))) rfl (by omega) (by omega) (by rw [hn]; omega)
            rw [hn] at h1 h2
            constructor
            · rintro ⟨g1, g2⟩
              simp only [lsum] at g2
              obtain ⟨r, e, hr⟩ := h1 ⟨fun e he => g1 e (List.mem_cons_of_mem _ he), by omega⟩
              refine ⟨r, e, ?_⟩
              have e49 : ([49] : List Int).map (fun n : Int => UInt8.ofNat n.toNat) = [49] := rfl
              rw [hr, List.map_append, List.map_append, nums_bytes, e49, bl_bs]
              show _ = xs.map (fun n => UInt8.ofNat n.toNat) ++ (49 :: (codeL l[i] ++ tabL (l.drop (i + 1))))
              simp
            · intro hno
              refine h2 fun g => hno ⟨fun e he => ?_, ?_⟩
              · rcases List.mem_cons.1 he with rfl | he
                · exact hok
                · exact g.1 e he
              · have := g.2
                simp only [lsum]
                omega
      · rw [hstep, validp_no (by omega) hok, Option.bind_some, if_neg (by decide), hdrop]
        exact ⟨fun h => absurd (h.1 _ List.mem_cons_self) hok, fun _ => rfl⟩
    · rw [ring_list.l0, if_neg (by omega), if_pos (by omega), List.drop_eq_nil_of_le (by omega)]
      refine ⟨fun _ => ⟨_, rfl, ?_⟩, fun h => absurd ⟨fun e he => (by cases he), by simp only [lsum]; omega⟩ h⟩
      rw [bl_nums, List.map_append]
      rfl
  termination_by d => d
theorem ringList_yes {l : List (List Ins)} (hl : l.length ≤ 1000) (h : GoodL l) (k : Nat) (hk : 6000 ≤ k) : ring_list.f k l = some (bs (tabL l), 0) := by
  unfold ring_list.f
  obtain ⟨r, e, hr⟩ := (ringList_l l hl l.length k 0 [] rfl (by omega) (by omega) (by simp)).1 (by simpa [GoodL] using h)
  rw [show ((0 : Nat) : Int) = 0 from rfl] at e
  rw [e, eq_bs hr]
  rfl
end Go.Proofs.YtpnmmpfidiegcaaGreatDoor.Plain
end
section
namespace Go.Proofs.YtpnmmpfidiegcaaGreatDoor.C
open Go.RowKit Go.Proofs.YtpnmmpfidiegcaaGreatDoorW.PrintWords Go.Proofs.YtpnmmpfidiegcaaGreatDoorW.PrintLast Go.Proofs.YtpnmmpfidiegcaaGreatDoorW.PrintMore
attribute [local go_sem] max2_int min2_int max_two min_two max_three min_three max_four min_four
set_option linter.unusedVariables false
set_option linter.unusedSimpArgs false
def narcissustop_register.f (a0 : Int) : Option (Bool) := if a0 ≥ 0 then (some (decide (a0 < 32))) else (some false)
set_option maxHeartbeats 8000000 in
set_option maxRecDepth 100000 in
theorem narcissustop_register.calls (a0 : Int) (r : Bool) (w : World) (h : narcissustop_register.f a0 = some r) :
  Calls Tryz.prog 22 #[.int .i64 a0] w fun e w' => e = .returned (.bool r) ∧ Drawn0 w w' := by
 have H : (if a0 ≥ 0 then (some (decide (a0 < 32))) else (some false)) = some r := h
 clear h
 by_cases c2 : a0 ≥ 0
 ·rw [if_pos c2] at H
  have c2b0 : decide (0 ≤ a0) = true := decide_eq_true c2
  clear c2
  obtain rfl := Option.some.inj H
  go_enter Tryz.func22, Tryz.ntmps22
  go_wp2
  go_ret
  exact ⟨by first | rfl | (simp; done) | (simp [*]; done) | (simp [show ∀ l : List UInt8, (l != []) = !l.isEmpty from fun l => by cases l <;> rfl]; done), by repeat (first | exact Drawn0.refl _ | apply Drawn0.step)⟩
 ·rw [if_neg c2] at H
  have c2b0 : decide (0 ≤ a0) = false := decide_eq_false c2
  clear c2
  obtain rfl := Option.some.inj H
  go_enter Tryz.func22, Tryz.ntmps22
  go_wp2
  go_ret
  exact ⟨by first | rfl | (simp; done) | (simp [*]; done) | (simp [show ∀ l : List UInt8, (l != []) = !l.isEmpty from fun l => by cases l <;> rfl]; done), by repeat (first | exact Drawn0.refl _ | apply Drawn0.step)⟩
end Go.Proofs.YtpnmmpfidiegcaaGreatDoor.C
end
