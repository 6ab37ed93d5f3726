/- Texts of this claim, together: what the functions return, and what they say in plain words. -/
import Derived.Test.YtocoamgbpoommaaGreatDoorUB
import Derived.Test.YtocoamgbpoommaaGreatDoorUU
import Derived.Test.YtocoamgbpoommaaGreatDoorUT
import Derived.Test.YtocoamgbpoommaaGreatDoorUS
import Derived.Test.YtocoamgbpoommaaGreatDoorUP
section
namespace Go.Proofs.YtocoamgbpoommaaGreatDoor.C
open Go.RowKit Go.Proofs.YtocoamgbpoommaaGreatDoorW.PrintWords Go.Proofs.YtocoamgbpoommaaGreatDoorW.PrintLast Go.Proofs.YtocoamgbpoommaaGreatDoorW.PrintMore
attribute [local go_sem] max2_int min2_int max_two min_two max_three min_three max_four min_four
set_option linter.unusedVariables false
set_option linter.unusedSimpArgs false
def narcissusref02_Code.l0 : Nat → List (S72) → List ByteArray → Int → Option (ByteArray)
 | 0, _, _, _ => none
 | k + 1, x0, x3, x4 => if x4 < (x0.length : Int) then (if 0 ≤ x4 then ((narcissusref02_CodeOf.f k ((rd_T72 x0 x4).f0) ((rd_T72 x0 x4).f1) ((rd_T72 x0 x4).f2) ((rd_T72 x0 x4).f3) ((rd_T72 x0 x4).f4)).bind fun t2 => (if x3.length < 8796093022208 then (narcissusref02_Code.l0 k x0 (x3 ++ [t2]) (wrap64 (x4 + 1))) else (none))) else (none)) else ((narcissusref01_List.f k x3).bind fun t6 => (some t6))
def narcissusref02_Code.f (k : Nat) (l0 : List (S72)) : Option (ByteArray) := narcissusref02_Code.l0 k l0 ([] : List ByteArray) 0
set_option maxHeartbeats 8000000 in
set_option maxRecDepth 100000 in
theorem narcissusref02_Code.calls (k : Nat) (A0 : Option Addr) (c0 : Nat) (l0 : List (S72)) (r : ByteArray) (w : World) (hr0 : Kd.C k72 w A0 l0.length l0) (hc0 : l0.length ≤ c0) (h : narcissusref02_Code.f k l0 = some r) :
  Calls Tryz.prog 64 #[.slice A0 l0.length c0] w fun e w' => e = .returned (.string r) ∧ Below w.heap.size w w' := by
 have hu72 := Tryz.underlying72
 have HR0 := Aside0.mk hr0
 have HC0 := Aside0.mk hc0
 clear hr0 hc0
 have HB := Aside0.mk (Below.refl w.heap.size w)
 have H : (narcissusref02_Code.l0 k l0 ([] : List ByteArray) 0) = some r := h
 clear h
 have H' := Aside0.mk H
 clear H
 go_enter Tryz.func64, Tryz.ntmps64
 go_wp2
 go_loopg [3, 4] k (fun kq v3 v4 w' => ∃ (x3_1 : List ByteArray) (x4_1 : Int), v4 = .int .i64 x4_1 ∧ Aside0 (narcissusref02_Code.l0 kq l0 x3_1 x4_1 = some r) ∧ Aside0 (kq ≤ k) ∧ Aside0 (Kd.R Kd.string 9 w' w.heap.size (fun _ => True) v3 x3_1) ∧ Aside0 (Below w.heap.size w w'))
 case atStart => exact ⟨(([] : List ByteArray)), (0), (by first | rfl | (simp; done) | (simp [*]; done)), H', ⟨Nat.le_refl _⟩, ⟨by first | exact Kd.R_nil _ _ _ _ _ | exact Kd.N_nil _ _ _ _ _ | exact Kd.V_nil _ _ _ _ _ | exact Kd.Q_nil _ _ _ _ _ | exact Kd.S_nil _ _ _ _ _⟩, ⟨by repeat (first | (with_reducible first | exact HB.out | apply below_alloc | apply pw_below_drewN | apply below_drew1) | exact HB.out)⟩⟩
 case round =>
  clear H'
  obtain ⟨x3_1, x4_1, rfl, HA, HK1, HO_3, HB⟩ := hrel
  cases gk with
  | zero => exact absurd HA.out (by simp [narcissusref02_Code.l0])
  | succ k1 =>
   have H := HA.out
   clear HA
   simp only [narcissusref02_Code.l0] at H
   by_cases c2 : x4_1 < (l0.length : Int)
   ·rw [if_pos c2] at H
    have c2b0 : decide (x4_1 < (l0.length : Int)) = true := decide_eq_true c2
    clear c2
    by_cases c3 : 0 ≤ x4_1
    ·rw [if_pos c3] at H
     have c3b0 : decide (0 ≤ x4_1) = true := decide_eq_true c3
     clear c3
     replace H := Option.bind_eq_some_iff.mp H
     obtain ⟨t2, A40, H⟩ := H
     replace H : (if x3_1.length < 8796093022208 then (narcissusref02_Code.l0 k1 l0 (x3_1 ++ [t2]) (wrap64 (x4_1 + 1))) else (none)) = some r := H
     have A4 := Aside0.mk A40
     clear A40
     by_cases c5 : x3_1.length < 8796093022208
     ·rw [if_pos c5] at H
      have LMc5 := Aside0.mk c5
      clear c5
      obtain ⟨y3, hy3⟩ : ∃ y_ : List ByteArray, y_ = (x3_1 ++ [t2]) := ⟨_, rfl⟩
      replace H : (narcissusref02_Code.l0 k1 l0 y3 (wrap64 (x4_1 + 1))) = some r := by first | (rw [hy3]; with_reducible exact H) | (have H2_ := (Option.bind_some _ _).symm.trans H; rw [hy3]; with_reducible exact H2_) | (have H2_ := (Option.bind_some _ _).symm.trans H; with_reducible exact H2_) | with_reducible exact H | (rw [hy3]; exact H) | exact H
      have Ny3 := Aside0.mk hy3
      clear hy3
      have H' := Aside0.mk H
      clear H
      have p1 : 0 ≤ (x4_1 : Int) := of_decide_eq_true (by first | (with_reducible assumption) | assumption)
      have q1 : x4_1 < (l0.length : Int) := of_decide_eq_true (by first | (with_reducible assumption) | assumption)
      obtain ⟨ad1, e1, hx1_0, hx1_1, hx1_2, hx1_3, hx1_4⟩ := at_T72 HR0.out x4_1 p1 q1
      cases e1
      replace hx1_0 := (HB.out.cell (World.block_lt_of_cell? w _ hx1_0)).trans hx1_0
      replace hx1_1 := (HB.out.cell (World.block_lt_of_cell? w _ hx1_1)).trans hx1_1
      replace hx1_2 := (HB.out.cell (World.block_lt_of_cell? w _ hx1_2)).trans hx1_2
      replace hx1_3 := (HB.out.cell (World.block_lt_of_cell? w _ hx1_3)).trans hx1_3
      replace hx1_4 := (HB.out.cell (World.block_lt_of_cell? w _ hx1_4)).trans hx1_4
      replace p1 := eq_true p1
      replace q1 := eq_true q1
      go_wp2_with (first | ((with_reducible refine gate_callee (f := 83) rfl ?_); refine goesL_ (some 16) rfl rfl Tryz.func83 (by kernel_rfl) rfl #[.agg #[.int .i64 ((rd_T72 l0 x4_1).f0), .int .i64 ((rd_T72 l0 x4_1).f1), .int .i64 ((rd_T72 l0 x4_1).f2), .int .i64 ((rd_T72 l0 x4_1).f3), .string ((rd_T72 l0 x4_1).f4)]] rfl (by (try simp only [List.map_toArray, List.map_cons, List.map_nil]); first | done | rfl | (simp only [List.length_drop, List.length_take]; rfl)) ?_; (with_reducible refine (narcissusref02_CodeOf.calls k1 ((rd_T72 l0 x4_1).f0) ((rd_T72 l0 x4_1).f1) ((rd_T72 l0 x4_1).f2) ((rd_T72 l0 x4_1).f3) ((rd_T72 l0 x4_1).f4) t2 _ A4.out).mono ?_); rintro e w6 ⟨rfl, hb⟩; refine ⟨_, rfl, ?_⟩; have n0_ := Aside0.mk (Kd.R_below (by (with_reducible repeat (first | apply Kd.R_alloc | apply Kd.R_drewN | apply Kd.R_drew)); exact HO_3.out) hb); have n1_ := Aside0.mk (below_step (by repeat (first | (with_reducible first | exact HB.out | apply below_alloc | apply pw_below_drewN | apply below_drew1) | exact HB.out)) hb); clear HO_3; clear HB; have HO_3 := n0_; have HB := n1_; clear n0_ n1_; (try clear hb); (try clear hb2); (try clear hk); (try clear hi)) | ((with_reducible refine gate_builtin (b := .append) (xs := #[.tmp 11, .tmp 17]) rfl ?_); at_builtin; refine Kd.R_append Kd.string (w0 := w) w.heap.size rfl (.tmp 11) (.tmp 17) 90 9 (.string ⟨#[]⟩) 16 rfl Tryz.underlying90 info9 rfl (by decide) (by omega) u3 x3_1 t2 [.string t2] (fun _ => True) (fun _ => False) rfl rfl ?aP (fun _ hk => hk.elim) ?aF ?aO ?aB ?aS ?aL ?_; (case aP => exact rfl); (case aB => exact (by repeat (first | (with_reducible first | exact HB.out | apply below_alloc | apply pw_below_drewN | apply below_drew1) | exact HB.out))); (case aF => exact (fun _ _ => trivial)); (case aO => exact (by (with_reducible repeat (first | apply Kd.R_alloc | apply Kd.R_drewN | apply Kd.R_drew)); exact HO_3.out)); (case aS => exact (below_size (by repeat (first | (with_reducible first | exact HB.out | apply below_alloc | apply pw_below_drewN | apply below_drew1) | exact HB.out)))); (case aL => have := LMc5.out; first | omega | (simp only [lit_size, List.size_toArray, List.length_cons, List.length_nil]; omega)); intro v4 w7 ho hb hg hat; rw [← Ny3.out] at ho; have n0_ := Aside0.mk (hb); have n1_ := Aside0.mk (ho); clear HB; clear HO_3; have HB := n0_; have HO5 := n1_; clear n0_ n1_; clear ho hb hg hat))
      go_roundg k1
      case measure => have := HK1.out; omega
      case rel => exact ⟨(y3), (wrap64 (x4_1 + 1)), (by first | rfl | (simp; done) | (simp [*]; done)), H', ⟨by have := HK1.out; omega⟩, ⟨by (with_reducible repeat (first | apply Kd.R_alloc | apply Kd.R_drewN | apply Kd.R_drew)); exact HO5.out⟩, ⟨by repeat (first | (with_reducible first | exact HB.out | apply below_alloc | apply pw_below_drewN | apply below_drew1) | exact HB.out)⟩⟩
     ·rw [if_neg c5] at H
      exact absurd H (by simp)
    ·rw [if_neg c3] at H
     exact absurd H (by simp)
   ·rw [if_neg c2] at H
    have c2b0 : decide (x4_1 < (l0.length : Int)) = false := decide_eq_false c2
    clear c2
    replace H := Option.bind_eq_some_iff.mp H
    obtain ⟨t6, A80, H⟩ := H
    replace H : (some t6) = some r := H
    have A8 := Aside0.mk A80
    clear A80
    obtain rfl := Option.some.inj H
    obtain ⟨Ao9, co9, eo9⟩ := Kd.R_slice HO_3.out
    subst eo9
    go_wp2_with (first | ((with_reducible refine gate_callee (f := 57) rfl ?_); refine goesL_ (some 20) rfl rfl Tryz.func57 (by kernel_rfl) rfl #[.slice Ao9 x3_1.length co9] rfl (by (try simp only [List.map_toArray, List.map_cons, List.map_nil]); first | done | rfl | (simp only [List.length_drop, List.length_take]; rfl)) ?_; (with_reducible refine (narcissusref01_List.calls k1 _ _ x3_1 t6 _ ?side1 ?side2 A8.out).mono ?_); (case side1 => repeat (first | exact (Kd.R_reads' HO_3.out).2.2 | (with_reducible refine Kd.C_alloc ?_ _) | (with_reducible refine Kd.C_drewN ?_ _) | (with_reducible refine Kd.C_drew ?_))); (case side2 => exact (Kd.R_reads' HO_3.out).2.1); rintro e w10 ⟨rfl, hb⟩; refine ⟨_, rfl, ?_⟩; have n0_ := Aside0.mk (Kd.R_below (by (with_reducible repeat (first | apply Kd.R_alloc | apply Kd.R_drewN | apply Kd.R_drew)); exact HO_3.out) hb); have n1_ := Aside0.mk (below_step (by repeat (first | (with_reducible first | exact HB.out | apply below_alloc | apply pw_below_drewN | apply below_drew1) | exact HB.out)) hb); clear HO_3; clear HB; have HO_3 := n0_; have HB := n1_; clear n0_ n1_; (try clear hb); (try clear hb2); (try clear hk); (try clear hi)))
    go_ret
    exact ⟨by first | rfl | (simp [errW_none, errW_some] <;> rfl) | (simp [*, errW_none, errW_some] <;> rfl), by repeat (first | (with_reducible first | exact HB.out | apply below_alloc | apply pw_below_drewN | apply below_drew1) | exact HB.out)⟩
end Go.Proofs.YtocoamgbpoommaaGreatDoor.C
end
section
namespace Go.Proofs.YtocoamgbpoommaaGreatDoor.Plain
open Go.Proofs.YtocoamgbpoommaaGreatDoor.C
open Go.RowKit Go.Proofs.YtocoamgbpoommaaGreatDoorW.PrintWords Go.Proofs.YtocoamgbpoommaaGreatDoorW.PrintLast Go.Proofs.YtocoamgbpoommaaGreatDoorW.PrintMore
set_option linter.unusedVariables false
set_option linter.unusedSimpArgs false
theorem bl_nums (l : List Int) : bl (strOfNums l) = l.map fun n => UInt8.ofNat n.toNat := strOfNums_data l
theorem nums_bytes (s : ByteArray) : (bytesOf s).map (fun n => UInt8.ofNat n.toNat) = bl s := by
  unfold bytesOf
  rw [List.map_map]
  conv => rhs; rw [← List.map_id (bl s)]
  refine List.map_congr_left fun c _ => ?_
  show UInt8.ofNat ((c.toNat : Int)).toNat = c
  rw [Int.toNat_natCast, UInt8.ofNat_toNat]
theorem rep10_num : ∀ n, (rep10 n ++ [48]).map (fun n : Int => UInt8.ofNat n.toNat) = num n
  | 0 => rfl
  | n + 1 => by
    have h : ∀ m, (rep10 m).map (fun n : Int => UInt8.ofNat n.toNat) ++ [49, 48] = 49 :: 48 :: (rep10 m).map (fun n : Int => UInt8.ofNat n.toNat) := by
      intro m
      induction m with
      | zero => rfl
      | succ m ih =>
        rw [rep10, List.map_append]
        show (rep10 m).map _ ++ [49, 48] ++ [49, 48] = 49 :: 48 :: ((rep10 m).map _ ++ [49, 48])
        rw [ih]
        simp [ih]
    have ih := rep10_num n
    rw [List.map_append] at ih
    rw [rep10, List.map_append, List.map_append]
    show (rep10 n).map _ ++ [49, 48] ++ [48] = num (n + 1)
    rw [h, num, ← ih]
    rfl
theorem refNumber_tells (n : Int) (h0 : 0 ≤ n) (h1 : n ≤ 1000000) : narcissusref01_Number.f n = some (bs (num n.toNat)) := by
  unfold narcissusref01_Number.f
  rw [if_pos ⟨h0, by omega⟩]
  congr 1
  apply eq_bs
  rw [bl_nums, rep10_num]
theorem refList_l (l : List ByteArray) (hz : ∀ s ∈ l, s.size ≤ 100000000) (hl : l.length ≤ 4000) : ∀ (d k i : Nat) (xs : List Int), l.length - i = d → i ≤ l.length → d < k → xs.length + d * 100000001 ≤ 140737488000000 →
    ∃ r, narcissusref01_List.l k l xs (i : Int) = some r ∧ bl r = xs.map (fun n => UInt8.ofNat n.toNat) ++ lst ((l.drop i).map bl)
  | d, k, i, xs, hd, hi, hk, hx => by
    obtain ⟨k, rfl⟩ : ∃ m, k = m + 1 := ⟨k - 1, by omega⟩
    by_cases hlt : i < l.length
    · have hdrop := drop_rd l i hlt
      have hs := hz _ (List.mem_of_mem_drop (i := i) (by rw [hdrop]; exact List.mem_cons_self))
      rw [narcissusref01_List.l, if_pos (by omega), hdrop]
      generalize rdOf ByteArray.empty l (i : Int) = s at *
      have hd2 : d = (l.length - (i + 1)) + 1 := by omega
      rw [if_pos (by omega), show (i : Int) + 1 = ((i + 1 : Nat) : Int) from rfl]
      obtain ⟨r, e, hr⟩ := refList_l l hz hl (l.length - (i + 1)) k (i + 1) (xs ++ [49] ++ bytesOf s) rfl (by omega) (by omega) (by
        rw [List.length_append, List.length_append, bytesOf_length, List.length_singleton]
        rw [hd2] at hx
        omega)
      refine ⟨r, e, ?_⟩
      have e49 : ([49] : List Int).map (fun n : Int => UInt8.ofNat n.toNat) = [49] := rfl
      rw [hr, List.map_append, List.map_append, nums_bytes, e49]
      show _ = _ ++ (49 :: (bl s ++ lst ((l.drop (i + 1)).map bl)))
      simp
    · rw [narcissusref01_List.l, if_neg (by omega), if_pos (by omega), List.drop_eq_nil_of_le (by omega)]
      refine ⟨_, rfl, ?_⟩
      rw [bl_nums, List.map_append]
      rfl
  termination_by d => d
theorem refList_tells (l : List ByteArray) (hz : ∀ s ∈ l, s.size ≤ 100000000) (hl : l.length ≤ 4000) (k : Nat) (hk : 4010 ≤ k) : narcissusref01_List.f k l = some (bs (lst (l.map bl))) := by
  unfold narcissusref01_List.f
  obtain ⟨r, e, hr⟩ := refList_l l hz hl l.length k 0 [] rfl (by omega) (by omega) (by simp; omega)
  rw [show ((0 : Nat) : Int) = 0 from rfl] at e
  rw [e]
  congr 1
  apply eq_bs
  rw [hr]
  rfl
theorem refPair_tells (a b : ByteArray) (ha : a.size ≤ 1000000000) (hb : b.size ≤ 1000000000) : narcissusref02_pair.f a b = some (bs (49 :: (bl a ++ bl b))) := by
  unfold narcissusref02_pair.f
  have e1 : ((⟨#[49]⟩ : ByteArray) ++ a) = bs (49 :: bl a) := by
    apply eq_bs
    rw [bl_append]
    rfl
  rw [if_pos (by omega), e1, bs_size, List.length_cons, bl_len, if_pos (by omega)]
  congr 1
theorem refCodeOf_tells {x : Ins} (h : Nice x) (k : Nat) (hk : 10 ≤ k) : narcissusref02_CodeOf.f k x.f0 x.f1 x.f2 x.f3 x.f4 = some (bs (item x)) := by
  obtain ⟨k, rfl⟩ : ∃ m, k = m + 1 := ⟨k - 1, by omega⟩
  have hop := item_op h
  have eop := refNumber_tells x.f0 hop.1 (by omega)
  obtain ⟨ha0, ha1, h⟩ := h
  have sz : ∀ (n : Int), 0 ≤ n → n ≤ 1000000 → (bs (num n.toNat)).size ≤ 2000001 := fun n h0 h1 => (num_small h0 h1).2
  have ea := refNumber_tells x.f1 ha0 ha1
  have sa := sz x.f1 ha0 ha1
  have so := sz x.f0 hop.1 (by omega)
  have sL : ∀ (l : List UInt8), (bs (49 :: l)).size = l.length + 1 := fun l => by rw [bs_size, List.length_cons]
  have lN : ∀ (n : Int), 0 ≤ n → n ≤ 1000000 → (num n.toNat).length ≤ 2000001 := fun n h0 h1 => by rw [← bs_size]; exact sz n h0 h1
  unfold narcissusref02_CodeOf.f
  rw [ea, Option.bind_some]
  rcases h with h | h | h | h
  · obtain ⟨h0, h2, h3, h4, h5⟩ := h
    have e : body x = 49 :: (num x.f1.toNat ++ bl x.f4) := by unfold body; rw [if_pos h0]
    rw [if_pos h0, refPair_tells _ _ (by omega) (by omega), Option.bind_some, eop, Option.bind_some, refPair_tells _ _ (by omega) (by rw [sL, List.length_append, bl_bs, bl_len]; have := lN x.f1 ha0 ha1; omega), Option.bind_some]
    rw [bl_bs, bl_bs, bl_bs]
    unfold item
    rw [e]
  · obtain ⟨h0, hb0, hb1, hc0, hc1, h4⟩ := h
    have e : body x = 49 :: (num x.f1.toNat ++ 49 :: (num x.f2.toNat ++ num x.f3.toNat)) := by unfold body; rw [if_neg (by omega), if_pos h0]
    have lb := lN x.f2 hb0 hb1
    have lc := lN x.f3 hc0 hc1
    have la := lN x.f1 ha0 ha1
    rw [if_neg (by omega), if_neg (by omega), if_neg (by omega), narcissusref02_CodeOf.j0, if_neg (by simp [h0]), if_pos h0]
    rw [refNumber_tells x.f2 hb0 hb1, Option.bind_some, refNumber_tells x.f3 hc0 hc1, Option.bind_some, refPair_tells _ _ (by rw [bs_size]; omega) (by rw [bs_size]; omega), Option.bind_some]
    rw [bl_bs, bl_bs, refPair_tells _ _ (by omega) (by rw [sL, List.length_append]; omega), Option.bind_some, eop, Option.bind_some, bl_bs, bl_bs]
    rw [refPair_tells _ _ (by omega) (by rw [sL, List.length_append, List.length_cons, List.length_append]; omega), Option.bind_some, bl_bs, bl_bs]
    unfold item
    rw [e]
  · obtain ⟨h0, hb0, hb1, hc, h4⟩ := h
    have la := lN x.f1 ha0 ha1
    have hmx : mx x.f2 0 = if x.f2 < 0 then 0 else x.f2 := rfl
    rw [if_neg (by omega), if_neg (by omega), if_neg (by omega), narcissusref02_CodeOf.j0, if_neg (by simp [h0]), if_neg (by omega), if_pos h0, hmx]
    by_cases hneg : x.f2 < 0
    · have e := body_neg h0 hneg
      have lb := lN (-x.f2) (by omega) (by omega)
      rw [if_pos hneg, refNumber_tells 0 (by omega) (by omega), Option.bind_some]
      rw [refPair_tells (⟨#[48]⟩ : ByteArray) (bs (num (0 : Int).toNat)) (by decide) (by decide), Option.bind_some, refPair_tells _ _ (by omega) (by rw [sL, List.length_append, bl_bs]; decide), Option.bind_some]
      rw [if_pos hneg, wrap_small (by omega) (by omega), refNumber_tells (-x.f2) (by omega) (by omega), Option.bind_some]
      rw [refPair_tells (⟨#[49, 48, 48]⟩ : ByteArray) _ (by decide) (by rw [bs_size]; omega), Option.bind_some, bl_bs]
      rw [refPair_tells _ _ (by omega) (by rw [sL, List.length_append]; have : (bl (⟨#[49, 48, 48]⟩ : ByteArray)).length = 3 := rfl; omega), Option.bind_some, eop, Option.bind_some, bl_bs, bl_bs]
      rw [refPair_tells _ _ (by omega) (by rw [sL, List.length_append, List.length_cons, List.length_append]; have : (bl (⟨#[49, 48, 48]⟩ : ByteArray)).length = 3 := rfl; omega), Option.bind_some, bl_bs, bl_bs]
      unfold item
      rw [e]
    · have e := body_pos h0 hneg
      have lb := lN x.f2 (by omega) hb1
      rw [if_neg hneg, refNumber_tells x.f2 (by omega) hb1, Option.bind_some]
      rw [refPair_tells (⟨#[48]⟩ : ByteArray) _ (by decide) (by rw [bs_size]; omega), Option.bind_some, bl_bs]
      rw [refPair_tells _ _ (by omega) (by rw [sL, List.length_append]; have : (bl (⟨#[48]⟩ : ByteArray)).length = 1 := rfl; omega), Option.bind_some, bl_bs, bl_bs]
      rw [if_neg hneg, eop, Option.bind_some]
      rw [refPair_tells _ _ (by omega) (by rw [sL, List.length_append, List.length_cons, List.length_append]; have : (bl (⟨#[48]⟩ : ByteArray)).length = 1 := rfl; omega), Option.bind_some, bl_bs, bl_bs]
      unfold item
      rw [e]
  · obtain ⟨h0, hb0, hb1, hc, h4⟩ := h
    have e := body_regs (x := x) (by omega) (by omega) (by omega)
    have la := lN x.f1 ha0 ha1
    have lb := lN x.f2 hb0 hb1
    have hj : narcissusref02_CodeOf.j0 (k + 1) (bs (num x.f1.toNat)) (⟨#[]⟩ : ByteArray) x.f0 true x.f0 x.f1 x.f2 x.f3 x.f4 = some (bs (item x)) := by
      rw [narcissusref02_CodeOf.j0, if_pos rfl, refNumber_tells x.f2 hb0 hb1, Option.bind_some, refPair_tells _ _ (by omega) (by rw [bs_size]; omega), Option.bind_some, eop, Option.bind_some, bl_bs, bl_bs]
      rw [refPair_tells _ _ (by omega) (by rw [sL, List.length_append]; omega), Option.bind_some, bl_bs, bl_bs]
      unfold item
      rw [e]
    rw [if_neg (by omega)]
    by_cases h1 : x.f0 = 1
    · rw [if_pos h1, show (x.f0 == 1) = true from beq_iff_eq.2 h1]; exact hj
    · rw [if_neg h1]
      by_cases h33 : x.f0 = 3
      · rw [if_pos h33, show (x.f0 == 3) = true from beq_iff_eq.2 h33]; exact hj
      · rw [if_neg h33, show (x.f0 == 4) = true from beq_iff_eq.2 (by omega)]; exact hj
theorem refCode_l (p : List Ins) (hn : ∀ x ∈ p, Nice x ∧ (item x).length ≤ 100000000) (hp : p.length ≤ 4000) : ∀ (d k i : Nat), p.length - i = d → i ≤ p.length → d + 4020 < k →
    narcissusref02_Code.l0 k p ((p.take i).map fun x => bs (item x)) (i : Int) = some (bs (codeL p))
  | d, k, i, hd, hi, hk => by
    obtain ⟨k, rfl⟩ : ∃ m, k = m + 1 := ⟨k - 1, by omega⟩
    by_cases hlt : i < p.length
    · have hx := hn p[i] (List.getElem_mem hlt)
      have ht : p.take (i + 1) = p.take i ++ [p[i]] := (List.take_append_getElem hlt).symm
      rw [narcissusref02_Code.l0, if_pos (by omega), if_pos (by omega), rd_at p i hlt, refCodeOf_tells hx.1 k (by omega), Option.bind_some, if_pos (by rw [List.length_map, List.length_take]; omega), wrap_small (by omega) (by omega), show (i : Int) + 1 = ((i + 1 : Nat) : Int) from rfl]
      have := refCode_l p hn hp (p.length - (i + 1)) k (i + 1) rfl (by omega) (by omega)
      rw [ht, List.map_append] at this
      exact this
    · rw [narcissusref02_Code.l0, if_neg (by omega), List.take_of_length_le (by omega), refList_tells _ (fun s hs => by
        obtain ⟨x, hx, rfl⟩ := List.mem_map.1 hs
        rw [bs_size]; exact (hn x hx).2) (by rw [List.length_map]; omega) k (by omega), Option.bind_some]
      unfold codeL
      rw [List.map_map]
      congr 3
  termination_by d => d
theorem refCode_yes {p : List Ins} {k : Nat} (hk : 8100 ≤ k) (h : OKP p) : narcissusref02_Code.f k p = some (bs (codeL p)) := by
  unfold narcissusref02_Code.f
  have := refCode_l p (fun x hx => ⟨okp_nice h x hx, by have := item_length_okp h x hx; have := okp_small h x hx; omega⟩) h.1 p.length k 0 rfl (by omega) (by have := h.1; omega)
  simpa using this
end Go.Proofs.YtocoamgbpoommaaGreatDoor.Plain
end
section
namespace Go.Proofs.YtocoamgbpoommaaGreatDoor.C
open Go.RowKit Go.Proofs.YtocoamgbpoommaaGreatDoorW.PrintWords Go.Proofs.YtocoamgbpoommaaGreatDoorW.PrintLast Go.Proofs.YtocoamgbpoommaaGreatDoorW.PrintMore
attribute [local go_sem] max2_int min2_int max_two min_two max_three min_three max_four min_four
set_option linter.unusedVariables false
set_option linter.unusedSimpArgs false
def narcissusref04_Fits.f (k : Nat) (l0 : List (S72)) : Option (Bool) := if (l0.length : Int) ≤ 4000 then ((narcissusref02_Trees.f k l0).bind fun t1 => (some (decide (t1 ≤ 2000000)))) else (some false)
set_option maxHeartbeats 8000000 in
set_option maxRecDepth 100000 in
theorem narcissusref04_Fits.calls (k : Nat) (A0 : Option Addr) (c0 : Nat) (l0 : List (S72)) (r : Bool) (w : World) (hr0 : Kd.C k72 w A0 l0.length l0) (hc0 : l0.length ≤ c0) (h : narcissusref04_Fits.f k l0 = some r) :
  Calls Tryz.prog 63 #[.slice A0 l0.length c0] w fun e w' => e = .returned (.bool r) ∧ Drawn0 w w' := by
 have HR0 := Aside0.mk hr0
 have HC0 := Aside0.mk hc0
 clear hr0 hc0
 have H : (if (l0.length : Int) ≤ 4000 then ((narcissusref02_Trees.f k l0).bind fun t1 => (some (decide (t1 ≤ 2000000)))) else (some false)) = some r := h
 clear h
 by_cases c2 : (l0.length : Int) ≤ 4000
 ·rw [if_pos c2] at H
  have c2b0 : decide ((l0.length : Int) ≤ 4000) = true := decide_eq_true c2
  have c2b1 : decide (l0.length ≤ 4000) = true := decide_eq_true (by omega)
  clear c2
  replace H := Option.bind_eq_some_iff.mp H
  obtain ⟨t1, A30, H⟩ := H
  replace H : (some (decide (t1 ≤ 2000000))) = some r := H
  have A3 := Aside0.mk A30
  clear A30
  obtain rfl := Option.some.inj H
  go_enter Tryz.func63, Tryz.ntmps63
  go_wp2_with (first | (go_at_call 36; (with_reducible refine (narcissusref02_Trees.calls k _ _ l0 t1 _ ?side1 ?side2 A3.out).mono ?_); (case side1 => repeat (first | exact HR0.out | (with_reducible refine Kd.C_alloc ?_ _) | (with_reducible refine Kd.C_drewN ?_ _) | (with_reducible refine Kd.C_drew ?_))); (case side2 => exact HC0.out); rintro e w' ⟨rfl, ⟨nd, rfl⟩⟩))
  go_ret
  exact ⟨by first | rfl | (simp; done) | (simp [*]; done) | (simp [show ∀ l : List UInt8, (l != []) = !l.isEmpty from fun l => by cases l <;> rfl]; done), by repeat (first | exact Drawn0.refl _ | apply Drawn0.step)⟩
 ·rw [if_neg c2] at H
  have c2b0 : decide ((l0.length : Int) ≤ 4000) = false := decide_eq_false c2
  have c2b1 : decide (l0.length ≤ 4000) = false := decide_eq_false (by omega)
  clear c2
  obtain rfl := Option.some.inj H
  go_enter Tryz.func63, Tryz.ntmps63
  go_wp2
  go_ret
  exact ⟨by first | rfl | (simp; done) | (simp [*]; done) | (simp [show ∀ l : List UInt8, (l != []) = !l.isEmpty from fun l => by cases l <;> rfl]; done), by repeat (first | exact Drawn0.refl _ | apply Drawn0.step)⟩
end Go.Proofs.YtocoamgbpoommaaGreatDoor.C
end
section
namespace Go.Proofs.YtocoamgbpoommaaGreatDoor.C
open Go.RowKit Go.Proofs.YtocoamgbpoommaaGreatDoorW.PrintWords Go.Proofs.YtocoamgbpoommaaGreatDoorW.PrintLast Go.Proofs.YtocoamgbpoommaaGreatDoorW.PrintMore
attribute [local go_sem] max2_int min2_int max_two min_two max_three min_three max_four min_four
set_option linter.unusedVariables false
set_option linter.unusedSimpArgs false
def narcissusref07_Coded.f (k : Nat) (l0 : List (S72)) : Option (ByteArray × Bool) := (narcissusref04_Fits.f k l0).bind fun t1 => (if t1 = true then ((narcissusref02_Code.f k l0).bind fun t2 => (some (t2, decide ((t2.size : Int) ≤ 2000000)))) else (some ((⟨#[]⟩ : ByteArray), false)))
set_option maxHeartbeats 8000000 in
set_option maxRecDepth 100000 in
theorem narcissusref07_Coded.calls (k : Nat) (A0 : Option Addr) (c0 : Nat) (l0 : List (S72)) (r1 : ByteArray) (r2 : Bool) (w : World) (hr0 : Kd.C k72 w A0 l0.length l0) (hc0 : l0.length ≤ c0) (h : narcissusref07_Coded.f k l0 = some (r1, r2)) :
  Calls Tryz.prog 47 #[.slice A0 l0.length c0] w fun e w' => e = .returned (.tuple #[.string r1, .bool r2]) ∧ Below w.heap.size w w' := by
 have HR0 := Aside0.mk hr0
 have HC0 := Aside0.mk hc0
 clear hr0 hc0
 have HB := Aside0.mk (Below.refl w.heap.size w)
 have H : ((narcissusref04_Fits.f k l0).bind fun t1 => (if t1 = true then ((narcissusref02_Code.f k l0).bind fun t2 => (some (t2, decide ((t2.size : Int) ≤ 2000000)))) else (some ((⟨#[]⟩ : ByteArray), false)))) = some (r1, r2) := h
 clear h
 replace H := Option.bind_eq_some_iff.mp H
 obtain ⟨t1, A20, H⟩ := H
 replace H : (if t1 = true then ((narcissusref02_Code.f k l0).bind fun t2 => (some (t2, decide ((t2.size : Int) ≤ 2000000)))) else (some ((⟨#[]⟩ : ByteArray), false))) = some (r1, r2) := H
 have A2 := Aside0.mk A20
 clear A20
 by_cases c3 : t1 = true
 ·subst c3
  have H1 : ((narcissusref02_Code.f k l0).bind fun t2 => (some (t2, decide ((t2.size : Int) ≤ 2000000)))) = some (r1, r2) := by rw [if_pos rfl] at H; exact H
  clear H
  have H := H1
  clear H1
  replace H := Option.bind_eq_some_iff.mp H
  obtain ⟨t2, A40, H⟩ := H
  replace H : (some (t2, decide ((t2.size : Int) ≤ 2000000))) = some (r1, r2) := H
  have A4 := Aside0.mk A40
  clear A40
  simp only [Option.some.injEq, Prod.mk.injEq] at H
  obtain ⟨rfl, rfl⟩ := H
  go_enter Tryz.func47, Tryz.ntmps47
  go_wp2_with (first | ((with_reducible refine gate_callee (f := 63) rfl ?_); refine goesL_ (some 6) rfl rfl Tryz.func63 (by kernel_rfl) rfl #[.slice A0 l0.length c0] rfl (by (try simp only [List.map_toArray, List.map_cons, List.map_nil]); first | done | rfl | (simp only [List.length_drop, List.length_take]; rfl)) ?_; (with_reducible refine (narcissusref04_Fits.calls k _ _ l0 true _ ?side1 ?side2 A2.out).mono ?_); (case side1 => repeat (first | exact HR0.out | (with_reducible refine Kd.C_alloc ?_ _) | (with_reducible refine Kd.C_drewN ?_ _) | (with_reducible refine Kd.C_drew ?_))); (case side2 => exact HC0.out); rintro e w' ⟨rfl, ⟨nd, rfl⟩⟩; refine ⟨_, rfl, ?_⟩) | ((with_reducible refine gate_callee (f := 64) rfl ?_); refine goesL_ (some 9) rfl rfl Tryz.func64 (by kernel_rfl) rfl #[.slice A0 l0.length c0] rfl (by (try simp only [List.map_toArray, List.map_cons, List.map_nil]); first | done | rfl | (simp only [List.length_drop, List.length_take]; rfl)) ?_; (with_reducible refine (narcissusref02_Code.calls k _ _ l0 t2 _ ?side1 ?side2 A4.out).mono ?_); (case side1 => repeat (first | exact HR0.out | (with_reducible refine Kd.C_alloc ?_ _) | (with_reducible refine Kd.C_drewN ?_ _) | (with_reducible refine Kd.C_drew ?_))); (case side2 => exact HC0.out); rintro e w5 ⟨rfl, hb⟩; refine ⟨_, rfl, ?_⟩; have n0_ := Aside0.mk (below_step (by repeat (first | (with_reducible first | exact HB.out | apply below_alloc | apply pw_below_drewN | apply below_drew1) | exact HB.out)) hb); clear HB; have HB := n0_; clear n0_; (try clear hb); (try clear hb2); (try clear hk); (try clear hi)))
  go_ret2
  exact ⟨by first | rfl | (simp [errW_none, errW_some] <;> rfl) | (simp [*, errW_none, errW_some] <;> rfl), by repeat (first | (with_reducible first | exact HB.out | apply below_alloc | apply pw_below_drewN | apply below_drew1) | exact HB.out)⟩
 ·replace c3 := Bool.eq_false_iff.mpr c3
  subst c3
  have H1 : (some ((⟨#[]⟩ : ByteArray), false)) = some (r1, r2) := by rw [if_neg (show ¬ (false = true) by decide)] at H; exact H
  clear H
  have H := H1
  clear H1
  simp only [Option.some.injEq, Prod.mk.injEq] at H
  obtain ⟨rfl, rfl⟩ := H
  go_enter Tryz.func47, Tryz.ntmps47
  go_wp2_with (first | ((with_reducible refine gate_callee (f := 63) rfl ?_); refine goesL_ (some 6) rfl rfl Tryz.func63 (by kernel_rfl) rfl #[.slice A0 l0.length c0] rfl (by (try simp only [List.map_toArray, List.map_cons, List.map_nil]); first | done | rfl | (simp only [List.length_drop, List.length_take]; rfl)) ?_; (with_reducible refine (narcissusref04_Fits.calls k _ _ l0 false _ ?side1 ?side2 A2.out).mono ?_); (case side1 => repeat (first | exact HR0.out | (with_reducible refine Kd.C_alloc ?_ _) | (with_reducible refine Kd.C_drewN ?_ _) | (with_reducible refine Kd.C_drew ?_))); (case side2 => exact HC0.out); rintro e w' ⟨rfl, ⟨nd, rfl⟩⟩; refine ⟨_, rfl, ?_⟩))
  go_ret2
  exact ⟨by first | rfl | (simp [errW_none, errW_some] <;> rfl) | (simp [*, errW_none, errW_some] <;> rfl), by repeat (first | (with_reducible first | exact HB.out | apply below_alloc | apply pw_below_drewN | apply below_drew1) | exact HB.out)⟩
end Go.Proofs.YtocoamgbpoommaaGreatDoor.C
end
section
namespace Go.Proofs.YtocoamgbpoommaaGreatDoor.C
open Go.RowKit Go.Proofs.YtocoamgbpoommaaGreatDoorW.PrintWords Go.Proofs.YtocoamgbpoommaaGreatDoorW.PrintLast Go.Proofs.YtocoamgbpoommaaGreatDoorW.PrintMore
attribute [local go_sem] max2_int min2_int max_two min_two max_three min_three max_four min_four
set_option linter.unusedVariables false
set_option linter.unusedSimpArgs false
def narcissusref05_head.f (a0 : ByteArray) : Option ((List (S72))) := some (([(⟨0, 1, 0, 0, a0⟩ : S72), (⟨2, 0, 1, 0, (⟨#[]⟩ : ByteArray)⟩ : S72), (⟨0, 1, 0, 0, (⟨#[48]⟩ : ByteArray)⟩ : S72)] : List (S72)))
set_option maxHeartbeats 8000000 in
set_option maxRecDepth 100000 in
theorem narcissusref05_head.calls (a0 : ByteArray) (r : List (S72)) (w : World) (h : narcissusref05_head.f a0 = some r) :
  Calls Tryz.prog 58 #[.string a0] w fun e w' => ∃ v0_ : Value, e = .returned (v0_) ∧ Kd.R k72 72 w' w.heap.size (fun _ => True) v0_ r ∧ Below w.heap.size w w' := by
 have hu72 := Tryz.underlying72
 have HB := Aside0.mk (Below.refl w.heap.size w)
 have H : (some (([(⟨0, 1, 0, 0, a0⟩ : S72), (⟨2, 0, 1, 0, (⟨#[]⟩ : ByteArray)⟩ : S72), (⟨0, 1, 0, 0, (⟨#[48]⟩ : ByteArray)⟩ : S72)] : List (S72)))) = some r := h
 clear h
 obtain ⟨y1, hy1⟩ : ∃ y_ : List (S72), y_ = (([(⟨0, 1, 0, 0, a0⟩ : S72), (⟨2, 0, 1, 0, (⟨#[]⟩ : ByteArray)⟩ : S72), (⟨0, 1, 0, 0, (⟨#[48]⟩ : ByteArray)⟩ : S72)] : List (S72))) := ⟨_, rfl⟩
 replace H : (some y1) = some r := by first | (rw [hy1]; with_reducible exact H) | (have H2_ := (Option.bind_some _ _).symm.trans H; rw [hy1]; with_reducible exact H2_) | (have H2_ := (Option.bind_some _ _).symm.trans H; with_reducible exact H2_) | with_reducible exact H | (rw [hy1]; exact H) | exact H
 have Ny1 := Aside0.mk hy1
 clear hy1
 obtain rfl := Option.some.inj H
 go_enter Tryz.func58, Tryz.ntmps58
 go_wp2_with (first | ((with_reducible refine gate_dst (N := 7) rfl ?_); refine Kd.R_lit k72 _ 72 ?hg (N := 7) ?hd (xs := ([(⟨0, 1, 0, 0, a0⟩ : S72), (⟨2, 0, 1, 0, (⟨#[]⟩ : ByteArray)⟩ : S72), (⟨0, 1, 0, 0, (⟨#[48]⟩ : ByteArray)⟩ : S72)] : List (S72))) (inner := [.int .i64 0, .int .i64 1, .int .i64 0, .int .i64 0, .string a0, .int .i64 2, .int .i64 0, .int .i64 1, .int .i64 0, .string (⟨#[]⟩ : ByteArray), .int .i64 0, .int .i64 1, .int .i64 0, .int .i64 0, .string (⟨#[48]⟩ : ByteArray)]) (ok := fun _ => True) (okp := fun _ => True) ?hr ?hp (fun _ hk => hk) trivial (Below.refl _ _) (Nat.le_refl _) (by simp) ?_; (case hd => rfl); (case hg => rfl); (case hr => first | (go_simp; done) | (go_simp; rfl)); (case hp => exact (Reps.c5 (show Kd.M k72 _ _ _ (⟨0, 1, 0, 0, a0⟩ : S72) [.int .i64 0, .int .i64 1, .int .i64 0, .int .i64 0, .string a0] from (k72_mkM _ _ _ (⟨0, 1, 0, 0, a0⟩ : S72) )) (Reps.c5 (show Kd.M k72 _ _ _ (⟨2, 0, 1, 0, (⟨#[]⟩ : ByteArray)⟩ : S72) [.int .i64 2, .int .i64 0, .int .i64 1, .int .i64 0, .string (⟨#[]⟩ : ByteArray)] from (k72_mkM _ _ _ (⟨2, 0, 1, 0, (⟨#[]⟩ : ByteArray)⟩ : S72) )) (Reps.c5 (show Kd.M k72 _ _ _ (⟨0, 1, 0, 0, (⟨#[48]⟩ : ByteArray)⟩ : S72) [.int .i64 0, .int .i64 1, .int .i64 0, .int .i64 0, .string (⟨#[48]⟩ : ByteArray)] from (k72_mkM _ _ _ (⟨0, 1, 0, 0, (⟨#[48]⟩ : ByteArray)⟩ : S72) )) (Reps.none _ _))))); intro v2 w2 ho3 hb hg_ hnew_; clear hg_ hnew_; (first | rw [← Ny1.out] at ho3 | (simp only [Int.reduceToNat] at ho3; rw [← Ny1.out] at ho3)); have n0_ := Aside0.mk (Kd.R_lower ho3 (below_size (by repeat (first | (with_reducible first | exact HB.out | apply below_alloc | apply pw_below_drewN | apply below_drew1) | exact HB.out)))); have n1_ := Aside0.mk (below_step (by repeat (first | (with_reducible first | exact HB.out | apply below_alloc | apply pw_below_drewN | apply below_drew1) | exact HB.out)) hb); clear HB; have HO3 := n0_; have HB := n1_; clear n0_ n1_; clear hb ho3))
 go_ret
 exact ⟨_, by first | rfl | (simp [errW_none, errW_some] <;> rfl) | (simp [*, errW_none, errW_some] <;> rfl), by (with_reducible repeat (first | apply Kd.R_alloc | apply Kd.R_drewN | apply Kd.R_drew)); exact HO3.out, by repeat (first | (with_reducible first | exact HB.out | apply below_alloc | apply pw_below_drewN | apply below_drew1) | exact HB.out)⟩
end Go.Proofs.YtocoamgbpoommaaGreatDoor.C
end
section
namespace Go.Proofs.YtocoamgbpoommaaGreatDoor.C
open Go.RowKit Go.Proofs.YtocoamgbpoommaaGreatDoorW.PrintWords Go.Proofs.YtocoamgbpoommaaGreatDoorW.PrintLast Go.Proofs.YtocoamgbpoommaaGreatDoorW.PrintMore
attribute [local go_sem] max2_int min2_int max_two min_two max_three min_three max_four min_four
set_option linter.unusedVariables false
set_option linter.unusedSimpArgs false
def narcissusref05_Spec.f (l0 : List (S72)) (a1 : ByteArray) : Option ((List (S72))) := (narcissusref05_head.f a1).bind fun t1 => (if t1.length + l0.length < 2932031007402 then (some (t1 ++ l0)) else (none))
set_option maxHeartbeats 8000000 in
set_option maxRecDepth 100000 in
theorem narcissusref05_Spec.calls (A0 : Option Addr) (c0 : Nat) (l0 : List (S72)) (a1 : ByteArray) (r : List (S72)) (w : World) (hr0 : Kd.C k72 w A0 l0.length l0) (hc0 : l0.length ≤ c0) (h : narcissusref05_Spec.f l0 a1 = some r) :
  Calls Tryz.prog 39 #[.slice A0 l0.length c0, .string a1] w fun e w' => ∃ v0_ : Value, e = .returned (v0_) ∧ Kd.R k72 72 w' w.heap.size (fun _ => True) v0_ r ∧ Below w.heap.size w w' := by
 have HR0 := Aside0.mk hr0
 have HC0 := Aside0.mk hc0
 clear hr0 hc0
 have HB := Aside0.mk (Below.refl w.heap.size w)
 have H : ((narcissusref05_head.f a1).bind fun t1 => (if t1.length + l0.length < 2932031007402 then (some (t1 ++ l0)) else (none))) = some r := h
 clear h
 replace H := Option.bind_eq_some_iff.mp H
 obtain ⟨t1, A30, H⟩ := H
 replace H : (if t1.length + l0.length < 2932031007402 then (some (t1 ++ l0)) else (none)) = some r := H
 have A3 := Aside0.mk A30
 clear A30
 by_cases c4 : t1.length + l0.length < 2932031007402
 ·rw [if_pos c4] at H
  have LMc4 := Aside0.mk c4
  clear c4
  obtain ⟨y4, hy4⟩ : ∃ y_ : List (S72), y_ = (t1 ++ l0) := ⟨_, rfl⟩
  replace H : (some y4) = some r := by first | (rw [hy4]; with_reducible exact H) | (have H2_ := (Option.bind_some _ _).symm.trans H; rw [hy4]; with_reducible exact H2_) | (have H2_ := (Option.bind_some _ _).symm.trans H; with_reducible exact H2_) | with_reducible exact H | (rw [hy4]; exact H) | exact H
  have Ny4 := Aside0.mk hy4
  clear hy4
  obtain rfl := Option.some.inj H
  go_enter Tryz.func39, Tryz.ntmps39
  go_wp2_with (first | ((with_reducible refine gate_callee (f := 58) rfl ?_); refine goesL_ (some 6) rfl rfl Tryz.func58 (by kernel_rfl) rfl #[.string a1] rfl (by (try simp only [List.map_toArray, List.map_cons, List.map_nil]); first | done | rfl | (simp only [List.length_drop, List.length_take]; rfl)) ?_; (with_reducible refine (narcissusref05_head.calls a1 t1 _ A3.out).mono ?_); rintro e w5 ⟨v2, rfl, ho0, hb⟩; refine ⟨_, rfl, ?_⟩; have n0_ := Aside0.mk (Kd.R_lower ho0 (below_size (by repeat (first | (with_reducible first | exact HB.out | apply below_alloc | apply pw_below_drewN | apply below_drew1) | exact HB.out)))); have n1_ := Aside0.mk (below_step (by repeat (first | (with_reducible first | exact HB.out | apply below_alloc | apply pw_below_drewN | apply below_drew1) | exact HB.out)) hb); clear HB; have HO3 := n0_; have HB := n1_; clear n0_ n1_; (try clear hb); (try clear hb2); (try clear hk); (try clear hi); (try clear ho0)) | ((with_reducible refine gate_builtin (b := .append) (xs := #[.tmp 6, .tmp 7]) rfl ?_); at_builtin; refine Kd.R_append_rows k72 (w0 := w) w.heap.size rfl (.tmp 6) (.tmp 7) 47 72 (.agg #[(.int .i64 0), (.int .i64 0), (.int .i64 0), (.int .i64 0), (.string ⟨#[]⟩)]) 48 rfl Tryz.underlying47 info72 rfl (by decide) (by omega) v2 t1 l0 _ _ _ (fun _ => True) (fun _ => False) rfl rfl ?aO ?aR (fun _ _ h => h) (fun _ h => h.elim) ?aF ?aB ?aS ?aL ?_; (case aR => repeat (first | exact (Kd.C_below HR0.out HB.out) | (with_reducible refine Kd.C_alloc ?_ _) | (with_reducible refine Kd.C_drewN ?_ _) | (with_reducible refine Kd.C_drew ?_))); (case aB => exact (by repeat (first | (with_reducible first | exact HB.out | apply below_alloc | apply pw_below_drewN | apply below_drew1) | exact HB.out))); (case aF => exact (fun _ _ => trivial)); (case aO => exact (by (with_reducible repeat (first | apply Kd.R_alloc | apply Kd.R_drewN | apply Kd.R_drew)); exact HO3.out)); (case aS => exact (below_size (by repeat (first | (with_reducible first | exact HB.out | apply below_alloc | apply pw_below_drewN | apply below_drew1) | exact HB.out)))); (case aL => have := LMc4.out; first | omega | (simp only [lit_size, List.size_toArray, List.length_cons, List.length_nil]; omega)); intro v5 w6 ho hb hg hat; rw [← Ny4.out] at ho; have n0_ := Aside0.mk (hb); have n1_ := Aside0.mk (ho); clear HB; clear HO3; have HB := n0_; have HO6 := n1_; clear n0_ n1_; clear ho hb hg hat))
  go_ret
  exact ⟨_, by first | rfl | (simp [errW_none, errW_some] <;> rfl) | (simp [*, errW_none, errW_some] <;> rfl), by (with_reducible repeat (first | apply Kd.R_alloc | apply Kd.R_drewN | apply Kd.R_drew)); exact HO6.out, by repeat (first | (with_reducible first | exact HB.out | apply below_alloc | apply pw_below_drewN | apply below_drew1) | exact HB.out)⟩
 ·rw [if_neg c4] at H
  exact absurd H (by simp)
end Go.Proofs.YtocoamgbpoommaaGreatDoor.C
end
