/- Texts of this claim, together: what the functions return, and what they say in plain words. -/
import Derived.Test.YtocoamgbpoommaaGreatDoorUB
import Derived.Test.YtocoamgbpoommaaGreatDoorUT
import Derived.Test.YtocoamgbpoommaaGreatDoorUS
import Derived.Test.YtocoamgbpoommaaGreatDoorUP
import Derived.Test.YtocoamgbpoommaaGreatDoorUL
import Derived.Test.YtocoamgbpoommaaGreatDoorUN
section
namespace Go.Proofs.YtocoamgbpoommaaGreatDoor.C
open Go.RowKit Go.Proofs.YtocoamgbpoommaaGreatDoorW.PrintWords Go.Proofs.YtocoamgbpoommaaGreatDoorW.PrintLast Go.Proofs.YtocoamgbpoommaaGreatDoorW.PrintMore
attribute [local go_sem] max2_int min2_int max_two min_two max_three min_three max_four min_four
set_option linter.unusedVariables false
set_option linter.unusedSimpArgs false
def narcissusref02_Code.l0 : Nat → List (S72) → List ByteArray → Int → Option (ByteArray)
 | 0, _, _, _ => none
 | k + 1, x0, x3, x4 => if x4 < (x0.length : Int) then (if 0 ≤ x4 then ((narcissusref02_CodeOf.f k ((rd_T72 x0 x4).f0) ((rd_T72 x0 x4).f1) ((rd_T72 x0 x4).f2) ((rd_T72 x0 x4).f3) ((rd_T72 x0 x4).f4)).bind fun t2 => (if x3.length < 8796093022208 then (narcissusref02_Code.l0 k x0 (x3 ++ [t2]) (wrap64 (x4 + 1))) else (none))) else (none)) else ((narcissusref01_List.f k x3).bind fun t6 => (some t6))
def narcissusref02_Code.f (k : Nat) (l0 : List (S72)) : Option (ByteArray) := narcissusref02_Code.l0 k l0 ([] : List ByteArray) 0
set_option maxHeartbeats 8000000 in
set_option maxRecDepth 100000 in
theorem narcissusref02_Code.calls (k : Nat) (A0 : Option Addr) (c0 : Nat) (l0 : List (S72)) (r : ByteArray) (w : World) (hr0 : Kd.C k72 w A0 l0.length l0) (hc0 : l0.length ≤ c0) (h : narcissusref02_Code.f k l0 = some r) :
  Calls Tryz.prog 64 #[.slice A0 l0.length c0] w fun e w' => e = .returned (.string r) ∧ Below w.heap.size w w' := by
 have hu72 := Tryz.underlying72
 have HR0 := Aside0.mk hr0
 have HC0 := Aside0.mk hc0
 clear hr0 hc0
 have HB := Aside0.mk (Below.refl w.heap.size w)
 have H : (narcissusref02_Code.l0 k l0 ([] : List ByteArray) 0) = some r := h
 clear h
 have H' := Aside0.mk H
 clear H
 go_enter Tryz.func64, Tryz.ntmps64
 go_wp2
 go_loopg [3, 4] k (fun kq v3 v4 w' => ∃ (x3_1 : List ByteArray) (x4_1 : Int), v4 = .int .i64 x4_1 ∧ Aside0 (narcissusref02_Code.l0 kq l0 x3_1 x4_1 = some r) ∧ Aside0 (kq ≤ k) ∧ Aside0 (Kd.R Kd.string 9 w' w.heap.size (fun _ => True) v3 x3_1) ∧ Aside0 (Below w.heap.size w w'))
 case atStart => exact ⟨(([] : List ByteArray)), (0), (by first | rfl | (simp; done) | (simp [*]; done)), H', ⟨Nat.le_refl _⟩, ⟨by first | exact Kd.R_nil _ _ _ _ _ | exact Kd.N_nil _ _ _ _ _ | exact Kd.V_nil _ _ _ _ _ | exact Kd.Q_nil _ _ _ _ _ | exact Kd.S_nil _ _ _ _ _⟩, ⟨by repeat (first | (with_reducible first | exact HB.out | apply below_alloc | apply pw_below_drewN | apply below_drew1) | exact HB.out)⟩⟩
 case round =>
  clear H'
  obtain ⟨x3_1, x4_1, rfl, HA, HK1, HO_3, HB⟩ := hrel
  cases gk with
  | zero => exact absurd HA.out (by simp [narcissusref02_Code.l0])
  | succ k1 =>
   have H := HA.out
   clear HA
   simp only [narcissusref02_Code.l0] at H
   by_cases c2 : x4_1 < (l0.length : Int)
   ·rw [if_pos c2] at H
    have c2b0 : decide (x4_1 < (l0.length : Int)) = true := decide_eq_true c2
    clear c2
    by_cases c3 : 0 ≤ x4_1
    ·rw [if_pos c3] at H
     have c3b0 : decide (0 ≤ x4_1) = true := decide_eq_true c3
     clear c3
     replace H := Option.bind_eq_some_iff.mp H
     obtain ⟨t2, A40, H⟩ := H
     replace H : (if x3_1.length < 8796093022208 then (narcissusref02_Code.l0 k1 l0 (x3_1 ++ [t2]) (wrap64 (x4_1 + 1))) else (none)) = some r := H
     have A4 := Aside0.mk A40
     clear A40
     by_cases c5 : x3_1.length < 8796093022208
     ·rw [if_pos c5] at H
      have LMc5 := Aside0.mk c5
      clear c5
      obtain ⟨y3, hy3⟩ : ∃ y_ : List ByteArray, y_ = (x3_1 ++ [t2]) := ⟨_, rfl⟩
      replace H : (narcissusref02_Code.l0 k1 l0 y3 (wrap64 (x4_1 + 1))) = some r := by first | (rw [hy3]; with_reducible exact H) | (have H2_ := (Option.bind_some _ _).symm.trans H; rw [hy3]; with_reducible exact H2_) | (have H2_ := (Option.bind_some _ _).symm.trans H; with_reducible exact H2_) | with_reducible exact H | (rw [hy3]; exact H) | exact H
      have Ny3 := Aside0.mk hy3
      clear hy3
      have H' := Aside0.mk H
      clear H
      have p1 : 0 ≤ (x4_1 : Int) := of_decide_eq_true (by first | (with_reducible assumption) | assumption)
      have q1 : x4_1 < (l0.length : Int) := of_decide_eq_true (by first | (with_reducible assumption) | assumption)
      obtain ⟨ad1, e1, hx1_0, hx1_1, hx1_2, hx1_3, hx1_4⟩ := at_T72 HR0.out x4_1 p1 q1
      cases e1
      replace hx1_0 := (HB.out.cell (World.block_lt_of_cell? w _ hx1_0)).trans hx1_0
      replace hx1_1 := (HB.out.cell (World.block_lt_of_cell? w _ hx1_1)).trans hx1_1
      replace hx1_2 := (HB.out.cell (World.block_lt_of_cell? w _ hx1_2)).trans hx1_2
      replace hx1_3 := (HB.out.cell (World.block_lt_of_cell? w _ hx1_3)).trans hx1_3
      replace hx1_4 := (HB.out.cell (World.block_lt_of_cell? w _ hx1_4)).trans hx1_4
      replace p1 := eq_true p1
      replace q1 := eq_true q1
      go_wp2_with (first | ((with_reducible refine gate_callee (f := 83) rfl ?_); refine goesL_ (some 16) rfl rfl Tryz.func83 (by kernel_rfl) rfl #[.agg #[.int .i64 ((rd_T72 l0 x4_1).f0), .int .i64 ((rd_T72 l0 x4_1).f1), .int .i64 ((rd_T72 l0 x4_1).f2), .int .i64 ((rd_T72 l0 x4_1).f3), .string ((rd_T72 l0 x4_1).f4)]] rfl (by (try simp only [List.map_toArray, List.map_cons, List.map_nil]); first | done | rfl | (simp only [List.length_drop, List.length_take]; rfl)) ?_; (with_reducible refine (narcissusref02_CodeOf.calls k1 ((rd_T72 l0 x4_1).f0) ((rd_T72 l0 x4_1).f1) ((rd_T72 l0 x4_1).f2) ((rd_T72 l0 x4_1).f3) ((rd_T72 l0 x4_1).f4) t2 _ A4.out).mono ?_); rintro e w6 ⟨rfl, hb⟩; refine ⟨_, rfl, ?_⟩; have n0_ := Aside0.mk (Kd.R_below (by (with_reducible repeat (first | apply Kd.R_alloc | apply Kd.R_drewN | apply Kd.R_drew)); exact HO_3.out) hb); have n1_ := Aside0.mk (below_step (by repeat (first | (with_reducible first | exact HB.out | apply below_alloc | apply pw_below_drewN | apply below_drew1) | exact HB.out)) hb); clear HO_3; clear HB; have HO_3 := n0_; have HB := n1_; clear n0_ n1_; (try clear hb); (try clear hb2); (try clear hk); (try clear hi)) | ((with_reducible refine gate_builtin (b := .append) (xs := #[.tmp 11, .tmp 17]) rfl ?_); at_builtin; refine Kd.R_append Kd.string (w0 := w) w.heap.size rfl (.tmp 11) (.tmp 17) 90 9 (.string ⟨#[]⟩) 16 rfl Tryz.underlying90 info9 rfl (by decide) (by omega) u3 x3_1 t2 [.string t2] (fun _ => True) (fun _ => False) rfl rfl ?aP (fun _ hk => hk.elim) ?aF ?aO ?aB ?aS ?aL ?_; (case aP => exact rfl); (case aB => exact (by repeat (first | (with_reducible first | exact HB.out | apply below_alloc | apply pw_below_drewN | apply below_drew1) | exact HB.out))); (case aF => exact (fun _ _ => trivial)); (case aO => exact (by (with_reducible repeat (first | apply Kd.R_alloc | apply Kd.R_drewN | apply Kd.R_drew)); exact HO_3.out)); (case aS => exact (below_size (by repeat (first | (with_reducible first | exact HB.out | apply below_alloc | apply pw_below_drewN | apply below_drew1) | exact HB.out)))); (case aL => have := LMc5.out; first | omega | (simp only [lit_size, List.size_toArray, List.length_cons, List.length_nil]; omega)); intro v4 w7 ho hb hg hat; rw [← Ny3.out] at ho; have n0_ := Aside0.mk (hb); have n1_ := Aside0.mk (ho); clear HB; clear HO_3; have HB := n0_; have HO5 := n1_; clear n0_ n1_; clear ho hb hg hat))
      go_roundg k1
      case measure => have := HK1.out; omega
      case rel => exact ⟨(y3), (wrap64 (x4_1 + 1)), (by first | rfl | (simp; done) | (simp [*]; done)), H', ⟨by have := HK1.out; omega⟩, ⟨by (with_reducible repeat (first | apply Kd.R_alloc | apply Kd.R_drewN | apply Kd.R_drew)); exact HO5.out⟩, ⟨by repeat (first | (with_reducible first | exact HB.out | apply below_alloc | apply pw_below_drewN | apply below_drew1) | exact HB.out)⟩⟩
     ·rw [if_neg c5] at H
      exact absurd H (by simp)
    ·rw [if_neg c3] at H
     exact absurd H (by simp)
   ·rw [if_neg c2] at H
    have c2b0 : decide (x4_1 < (l0.length : Int)) = false := decide_eq_false c2
    clear c2
    replace H := Option.bind_eq_some_iff.mp H
    obtain ⟨t6, A80, H⟩ := H
    replace H : (some t6) = some r := H
    have A8 := Aside0.mk A80
    clear A80
    obtain rfl := Option.some.inj H
    obtain ⟨Ao9, co9, eo9⟩ := Kd.R_slice HO_3.out
    subst eo9
    go_wp2_with (first | ((with_reducible refine gate_callee (f := 57) rfl ?_); refine goesL_ (some 20) rfl rfl Tryz.func57 (by kernel_rfl) rfl #[.slice Ao9 x3_1.length co9] rfl (by (try simp only [List.map_toArray, List.map_cons, List.map_nil]); first | done | rfl | (simp only [List.length_drop, List.length_take]; rfl)) ?_; (with_reducible refine (narcissusref01_List.calls k1 _ _ x3_1 t6 _ ?side1 ?side2 A8.out).mono ?_); (case side1 => repeat (first | exact (Kd.R_reads' HO_3.out).2.2 | (with_reducible refine Kd.C_alloc ?_ _) | (with_reducible refine Kd.C_drewN ?_ _) | (with_reducible refine Kd.C_drew ?_))); (case side2 => exact (Kd.R_reads' HO_3.out).2.1); rintro e w10 ⟨rfl, hb⟩; refine ⟨_, rfl, ?_⟩; have n0_ := Aside0.mk (Kd.R_below (by (with_reducible repeat (first | apply Kd.R_alloc | apply Kd.R_drewN | apply Kd.R_drew)); exact HO_3.out) hb); have n1_ := Aside0.mk (below_step (by repeat (first | (with_reducible first | exact HB.out | apply below_alloc | apply pw_below_drewN | apply below_drew1) | exact HB.out)) hb); clear HO_3; clear HB; have HO_3 := n0_; have HB := n1_; clear n0_ n1_; (try clear hb); (try clear hb2); (try clear hk); (try clear hi)))
    go_ret
    exact ⟨by first | rfl | (simp [errW_none, errW_some] <;> rfl) | (simp [*, errW_none, errW_some] <;> rfl), by repeat (first | (with_reducible first | exact HB.out | apply below_alloc | apply pw_below_drewN | apply below_drew1) | exact HB.out)⟩
end Go.Proofs.YtocoamgbpoommaaGreatDoor.C
end
section
namespace Go.Proofs.YtocoamgbpoommaaGreatDoor.Plain
open Go.Proofs.YtocoamgbpoommaaGreatDoor.C
open Go.RowKit Go.Proofs.YtocoamgbpoommaaGreatDoorW.PrintWords Go.Proofs.YtocoamgbpoommaaGreatDoorW.PrintLast Go.Proofs.YtocoamgbpoommaaGreatDoorW.PrintMore
set_option linter.unusedVariables false
set_option linter.unusedSimpArgs false
theorem bl_nums (l : List Int) : bl (strOfNums l) = l.map fun n => UInt8.ofNat n.toNat := strOfNums_data l
theorem nums_bytes (s : ByteArray) : (bytesOf s).map (fun n => UInt8.ofNat n.toNat) = bl s := by
  unfold bytesOf
  rw [List.map_map]
  conv => rhs; rw [← List.map_id (bl s)]
  refine List.map_congr_left fun c _ => ?_
  show UInt8.ofNat ((c.toNat : Int)).toNat = c
  rw [Int.toNat_natCast, UInt8.ofNat_toNat]
theorem rep10_num : ∀ n, (rep10 n ++ [48]).map (fun n : Int => UInt8.ofNat n.toNat) = num n
  | 0 => rfl
  | n + 1 => by
    have h : ∀ m, (rep10 m).map (fun n : Int => UInt8.ofNat n.toNat) ++ [49, 48] = 49 :: 48 :: (rep10 m).map (fun n : Int => UInt8.ofNat n.toNat) := by
      intro m
      induction m with
      | zero => rfl
      | succ m ih =>
        rw [rep10, List.map_append]
        show (rep10 m).map _ ++ [49, 48] ++ [49, 48] = 49 :: 48 :: ((rep10 m).map _ ++ [49, 48])
        rw [ih]
        simp [ih]
    have ih := rep10_num n
    rw [List.map_append] at ih
    rw [rep10, List.map_append, List.map_append]
    show (rep10 n).map _ ++ [49, 48] ++ [48] = num (n + 1)
    rw [h, num, ← ih]
    rfl
theorem refNumber_tells (n : Int) (h0 : 0 ≤ n) (h1 : n ≤ 1000000) : narcissusref01_Number.f n = some (bs (num n.toNat)) := by
  unfold narcissusref01_Number.f
  rw [if_pos ⟨h0, by omega⟩]
  congr 1
  apply eq_bs
  rw [bl_nums, rep10_num]
theorem refList_l (l : List ByteArray) (hz : ∀ s ∈ l, s.size ≤ 100000000) (hl : l.length ≤ 4000) : ∀ (d k i : Nat) (xs : List Int), l.length - i = d → i ≤ l.length → d < k → xs.length + d * 100000001 ≤ 140737488000000 →
    ∃ r, narcissusref01_List.l k l xs (i : Int) = some r ∧ bl r = xs.map (fun n => UInt8.ofNat n.toNat) ++ lst ((l.drop i).map bl)
  | d, k, i, xs, hd, hi, hk, hx => by
    obtain ⟨k, rfl⟩ : ∃ m, k = m + 1 := ⟨k - 1, by omega⟩
    by_cases hlt : i < l.length
    · have hdrop := drop_rd l i hlt
      have hs := hz _ (List.mem_of_mem_drop (i := i) (by rw [hdrop]; exact List.mem_cons_self))
      rw [narcissusref01_List.l, if_pos (by omega), hdrop]
      generalize rdOf ByteArray.empty l (i : Int) = s at *
      have hd2 : d = (l.length - (i + 1)) + 1 := by omega
      rw [if_pos (by omega), show (i : Int) + 1 = ((i + 1 : Nat) : Int) from rfl]
      obtain ⟨r, e, hr⟩ := refList_l l hz hl (l.length - (i + 1)) k (i + 1) (xs ++ [49] ++ bytesOf s) rfl (by omega) (by omega) (by
        rw [List.length_append, List.length_append, bytesOf_length, List.length_singleton]
        rw [hd2] at hx
        omega)
      refine ⟨r, e, ?_⟩
      have e49 : ([49] : List Int).map (fun n : Int => UInt8.ofNat n.toNat) = [49] := rfl
      rw [hr, List.map_append, List.map_append, nums_bytes, e49]
      show _ = _ ++ (49 :: (bl s ++ lst ((l.drop (i + 1)).map bl)))
      simp
    · rw [narcissusref01_List.l, if_neg (by omega), if_pos (by omega), List.drop_eq_nil_of_le (by omega)]
      refine ⟨_, rfl, ?_⟩
      rw [bl_nums, List.map_append]
      rfl
  termination_by d => d
theorem refList_tells (l : List ByteArray) (hz : ∀ s ∈ l, s.size ≤ 100000000) (hl : l.length ≤ 4000) (k : Nat) (hk : 4010 ≤ k) : narcissusref01_List.f k l = some (bs (lst (l.map bl))) := by
  unfold narcissusref01_List.f
  obtain ⟨r, e, hr⟩ := refList_l l hz hl l.length k 0 [] rfl (by omega) (by omega) (by simp; omega)
  rw [show ((0 : Nat) : Int) = 0 from rfl] at e
  rw [e]
  congr 1
  apply eq_bs
  rw [hr]
  rfl
theorem refPair_tells (a b : ByteArray) (ha : a.size ≤ 1000000000) (hb : b.size ≤ 1000000000) : narcissusref02_pair.f a b = some (bs (49 :: (bl a ++ bl b))) := by
  unfold narcissusref02_pair.f
  have e1 : ((⟨#[49]⟩ : ByteArray) ++ a) = bs (49 :: bl a) := by
    apply eq_bs
    rw [bl_append]
    rfl
  rw [if_pos (by omega), e1, bs_size, List.length_cons, bl_len, if_pos (by omega)]
  congr 1
theorem refCodeOf_tells {x : Ins} (h : Nice x) (k : Nat) (hk : 10 ≤ k) : narcissusref02_CodeOf.f k x.f0 x.f1 x.f2 x.f3 x.f4 = some (bs (item x)) := by
  obtain ⟨k, rfl⟩ : ∃ m, k = m + 1 := ⟨k - 1, by omega⟩
  have hop := item_op h
  have eop := refNumber_tells x.f0 hop.1 (by omega)
  obtain ⟨ha0, ha1, h⟩ := h
  have sz : ∀ (n : Int), 0 ≤ n → n ≤ 1000000 → (bs (num n.toNat)).size ≤ 2000001 := fun n h0 h1 => (num_small h0 h1).2
  have ea := refNumber_tells x.f1 ha0 ha1
  have sa := sz x.f1 ha0 ha1
  have so := sz x.f0 hop.1 (by omega)
  have sL : ∀ (l : List UInt8), (bs (49 :: l)).size = l.length + 1 := fun l => by rw [bs_size, List.length_cons]
  have lN : ∀ (n : Int), 0 ≤ n → n ≤ 1000000 → (num n.toNat).length ≤ 2000001 := fun n h0 h1 => by rw [← bs_size]; exact sz n h0 h1
  unfold narcissusref02_CodeOf.f
  rw [ea, Option.bind_some]
  rcases h with h | h | h | h
  · obtain ⟨h0, h2, h3, h4, h5⟩ := h
    have e : body x = 49 :: (num x.f1.toNat ++ bl x.f4) := by unfold body; rw [if_pos h0]
    rw [if_pos h0, refPair_tells _ _ (by omega) (by omega), Option.bind_some, eop, Option.bind_some, refPair_tells _ _ (by omega) (by rw [sL, List.length_append, bl_bs, bl_len]; have := lN x.f1 ha0 ha1; omega), Option.bind_some]
    rw [bl_bs, bl_bs, bl_bs]
    unfold item
    rw [e]
  · obtain ⟨h0, hb0, hb1, hc0, hc1, h4⟩ := h
    have e : body x = 49 :: (num x.f1.toNat ++ 49 :: (num x.f2.toNat ++ num x.f3.toNat)) := by unfold body; rw [if_neg (by omega), if_pos h0]
    have lb := lN x.f2 hb0 hb1
    have lc := lN x.f3 hc0 hc1
    have la := lN x.f1 ha0 ha1
    rw [if_neg (by omega), if_neg (by omega), if_neg (by omega), narcissusref02_CodeOf.j0, if_neg (by simp [h0]), if_pos h0]
    rw [refNumber_tells x.f2 hb0 hb1, Option.bind_some, refNumber_tells x.f3 hc0 hc1, Option.bind_some, refPair_tells _ _ (by rw [bs_size]; omega) (by rw [bs_size]; omega), Option.bind_some]
    rw [bl_bs, bl_bs, refPair_tells _ _ (by omega) (by rw [sL, List.length_append]; omega), Option.bind_some, eop, Option.bind_some, bl_bs, bl_bs]
    rw [refPair_tells _ _ (by omega) (by rw [sL, List.length_append, List.length_cons, List.length_append]; omega), Option.bind_some, bl_bs, bl_bs]
    unfold item
    rw [e]
  · obtain ⟨h0, hb0, hb1, hc, h4⟩ := h
    have la := lN x.f1 ha0 ha1
    have hmx : mx x.f2 0 = if x.f2 < 0 then 0 else x.f2 := rfl
    rw [if_neg (by omega), if_neg (by omega), if_neg (by omega), narcissusref02_CodeOf.j0, if_neg (by simp [h0]), if_neg (by omega), if_pos h0, hmx]
    by_cases hneg : x.f2 < 0
    · have e := body_neg h0 hneg
      have lb := lN (-x.f2) (by omega) (by omega)
      rw [if_pos hneg, refNumber_tells 0 (by omega) (by omega), Option.bind_some]
      rw [refPair_tells (⟨#[48]⟩ : ByteArray) (bs (num (0 : Int).toNat)) (by decide) (by decide), Option.bind_some, refPair_tells _ _ (by omega) (by rw [sL, List.length_append, bl_bs]; decide), Option.bind_some]
      rw [if_pos hneg, wrap_small (by omega) (by omega), refNumber_tells (-x.f2) (by omega) (by omega), Option.bind_some]
      rw [refPair_tells (⟨#[49, 48, 48]⟩ : ByteArray) _ (by decide) (by rw [bs_size]; omega), Option.bind_some, bl_bs]
      rw [refPair_tells _ _ (by omega) (by rw [sL, List.length_append]; have : (bl (⟨#[49, 48, 48]⟩ : ByteArray)).length = 3 := rfl; omega), Option.bind_some, eop, Option.bind_some, bl_bs, bl_bs]
      rw [refPair_tells _ _ (by omega) (by rw [sL, List.length_append, List.length_cons, List.length_append]; have : (bl (⟨#[49, 48, 48]⟩ : ByteArray)).length = 3 := rfl; omega), Option.bind_some, bl_bs, bl_bs]
      unfold item
      rw [e]
    · have e := body_pos h0 hneg
      have lb := lN x.f2 (by omega) hb1
      rw [if_neg hneg, refNumber_tells x.f2 (by omega) hb1, Option.bind_some]
      rw [refPair_tells (⟨#[48]⟩ : ByteArray) _ (by decide) (by rw [bs_size]; omega), Option.bind_some, bl_bs]
      rw [refPair_tells _ _ (by omega) (by rw [sL, List.length_append]; have : (bl (⟨#[48]⟩ : ByteArray)).length = 1 := rfl; omega), Option.bind_some, bl_bs, bl_bs]
      rw [if_neg hneg, eop, Option.bind_some]
      rw [refPair_tells _ _ (by omega) (by rw [sL, List.length_append, List.length_cons, List.length_append]; have : (bl (⟨#[48]⟩ : ByteArray)).length = 1 := rfl; omega), Option.bind_some, bl_bs, bl_bs]
      unfold item
      rw [e]
  · obtain ⟨h0, hb0, hb1, hc, h4⟩ := h
    have e := body_regs (x := x) (by omega) (by omega) (by omega)
    have la := lN x.f1 ha0 ha1
    have lb := lN x.f2 hb0 hb1
    have hj : narcissusref02_CodeOf.j0 (k + 1) (bs (num x.f1.toNat)) (⟨#[]⟩ : ByteArray) x.f0 true x.f0 x.f1 x.f2 x.f3 x.f4 = some (bs (item x)) := by
      rw [narcissusref02_CodeOf.j0, if_pos rfl, refNumber_tells x.f2 hb0 hb1, Option.bind_some, refPair_tells _ _ (by omega) (by rw [bs_size]; omega), Option.bind_some, eop, Option.bind_some, bl_bs, bl_bs]
      rw [refPair_tells _ _ (by omega) (by rw [sL, List.length_append]; omega), Option.bind_some, bl_bs, bl_bs]
      unfold item
      rw [e]
    rw [if_neg (by omega)]
    by_cases h1 : x.f0 = 1
    · rw [if_pos h1, show (x.f0 == 1) = true from beq_iff_eq.2 h1]; exact hj
    · rw [if_neg h1]
      by_cases h33 : x.f0 = 3
      · rw [if_pos h33, show (x.f0 == 3) = true from beq_iff_eq.2 h33]; exact hj
      · rw [if_neg h33, show (x.f0 == 4) = true from beq_iff_eq.2 (by omega)]; exact hj
theorem refCode_l (p : List Ins) (hn : ∀ x ∈ p, Nice x ∧ (item x).length ≤ 100000000) (hp : p.length ≤ 4000) : ∀ (d k i : Nat), p.length - i = d → i ≤ p.length → d + 4020 < k →
    narcissusref02_Code.l0 k p ((p.take i).map fun x => bs (item x)) (i : Int) = some (bs (codeL p))
  | d, k, i, hd, hi, hk => by
    obtain ⟨k, rfl⟩ : ∃ m, k = m + 1 := ⟨k - 1, by omega⟩
    by_cases hlt : i < p.length
    · have hx := hn p[i] (List.getElem_mem hlt)
      have ht : p.take (i + 1) = p.take i ++ [p[i]] := (List.take_append_getElem hlt).symm
      rw [narcissusref02_Code.l0, if_pos (by omega), if_pos (by omega), rd_at p i hlt, refCodeOf_tells hx.1 k (by omega), Option.bind_some, if_pos (by rw [List.length_map, List.length_take]; omega), wrap_small (by omega) (by omega), show (i : Int) + 1 = ((i + 1 : Nat) : Int) from rfl]
      have := refCode_l p hn hp (p.length - (i + 1)) k (i + 1) rfl (by omega) (by omega)
      rw [ht, List.map_append] at this
      exact this
    · rw [narcissusref02_Code.l0, if_neg (by omega), List.take_of_length_le (by omega), refList_tells _ (fun s hs => by
        obtain ⟨x, hx, rfl⟩ := List.mem_map.1 hs
        rw [bs_size]; exact (hn x hx).2) (by rw [List.length_map]; omega) k (by omega), Option.bind_some]
      unfold codeL
      rw [List.map_map]
      congr 3
  termination_by d => d
theorem refCode_yes {p : List Ins} {k : Nat} (hk : 8100 ≤ k) (h : OKP p) : narcissusref02_Code.f k p = some (bs (codeL p)) := by
  unfold narcissusref02_Code.f
  have := refCode_l p (fun x hx => ⟨okp_nice h x hx, by have := item_length_okp h x hx; have := okp_small h x hx; omega⟩) h.1 p.length k 0 rfl (by omega) (by have := h.1; omega)
  simpa using this
end Go.Proofs.YtocoamgbpoommaaGreatDoor.Plain
end
section
namespace Go.Proofs.YtocoamgbpoommaaGreatDoor.C
open Go.RowKit Go.Proofs.YtocoamgbpoommaaGreatDoorW.PrintWords Go.Proofs.YtocoamgbpoommaaGreatDoorW.PrintLast Go.Proofs.YtocoamgbpoommaaGreatDoorW.PrintMore
attribute [local go_sem] max2_int min2_int max_two min_two max_three min_three max_four min_four
set_option linter.unusedVariables false
set_option linter.unusedSimpArgs false
def narcissusref04_Fits.f (k : Nat) (l0 : List (S72)) : Option (Bool) := if (l0.length : Int) ≤ 4000 then ((narcissusref02_Trees.f k l0).bind fun t1 => (some (decide (t1 ≤ 2000000)))) else (some false)
set_option maxHeartbeats 8000000 in
set_option maxRecDepth 100000 in
theorem narcissusref04_Fits.calls (k : Nat) (A0 : Option Addr) (c0 : Nat) (l0 : List (S72)) (r : Bool) (w : World) (hr0 : Kd.C k72 w A0 l0.length l0) (hc0 : l0.length ≤ c0) (h : narcissusref04_Fits.f k l0 = some r) :
  Calls Tryz.prog 63 #[.slice A0 l0.length c0] w fun e w' => e = .returned (.bool r) ∧ Drawn0 w w' := by
 have HR0 := Aside0.mk hr0
 have HC0 := Aside0.mk hc0
 clear hr0 hc0
 have H : (if (l0.length : Int) ≤ 4000 then ((narcissusref02_Trees.f k l0).bind fun t1 => (some (decide (t1 ≤ 2000000)))) else (some false)) = some r := h
 clear h
 by_cases c2 : (l0.length : Int) ≤ 4000
 ·rw [if_pos c2] at H
  have c2b0 : decide ((l0.length : Int) ≤ 4000) = true := decide_eq_true c2
  have c2b1 : decide (l0.length ≤ 4000) = true := decide_eq_true (by omega)
  clear c2
  replace H := Option.bind_eq_some_iff.mp H
  obtain ⟨t1, A30, H⟩ := H
  replace H : (some (decide (t1 ≤ 2000000))) = some r := H
  have A3 := Aside0.mk A30
  clear A30
  obtain rfl := Option.some.inj H
  go_enter Tryz.func63, Tryz.ntmps63
  go_wp2_with (first | (go_at_call 36; (with_reducible refine (narcissusref02_Trees.calls k _ _ l0 t1 _ ?side1 ?side2 A3.out).mono ?_); (case side1 => repeat (first | exact HR0.out | (with_reducible refine Kd.C_alloc ?_ _) | (with_reducible refine Kd.C_drewN ?_ _) | (with_reducible refine Kd.C_drew ?_))); (case side2 => exact HC0.out); rintro e w' ⟨rfl, ⟨nd, rfl⟩⟩))
  go_ret
  exact ⟨by first | rfl | (simp; done) | (simp [*]; done) | (simp [show ∀ l : List UInt8, (l != []) = !l.isEmpty from fun l => by cases l <;> rfl]; done), by repeat (first | exact Drawn0.refl _ | apply Drawn0.step)⟩
 ·rw [if_neg c2] at H
  have c2b0 : decide ((l0.length : Int) ≤ 4000) = false := decide_eq_false c2
  have c2b1 : decide (l0.length ≤ 4000) = false := decide_eq_false (by omega)
  clear c2
  obtain rfl := Option.some.inj H
  go_enter Tryz.func63, Tryz.ntmps63
  go_wp2
  go_ret
  exact ⟨by first | rfl | (simp; done) | (simp [*]; done) | (simp [show ∀ l : List UInt8, (l != []) = !l.isEmpty from fun l => by cases l <;> rfl]; done), by repeat (first | exact Drawn0.refl _ | apply Drawn0.step)⟩
end Go.Proofs.YtocoamgbpoommaaGreatDoor.C
end
section
namespace Go.Proofs.YtocoamgbpoommaaGreatDoor.C
open Go.RowKit Go.Proofs.YtocoamgbpoommaaGreatDoorW.PrintWords Go.Proofs.YtocoamgbpoommaaGreatDoorW.PrintLast Go.Proofs.YtocoamgbpoommaaGreatDoorW.PrintMore
attribute [local go_sem] max2_int min2_int max_two min_two max_three min_three max_four min_four
set_option linter.unusedVariables false
set_option linter.unusedSimpArgs false
def narcissusref07_Coded.f (k : Nat) (l0 : List (S72)) : Option (ByteArray × Bool) := (narcissusref04_Fits.f k l0).bind fun t1 => (if t1 = true then ((narcissusref02_Code.f k l0).bind fun t2 => (some (t2, decide ((t2.size : Int) ≤ 2000000)))) else (some ((⟨#[]⟩ : ByteArray), false)))
set_option maxHeartbeats 8000000 in
set_option maxRecDepth 100000 in
theorem narcissusref07_Coded.calls (k : Nat) (A0 : Option Addr) (c0 : Nat) (l0 : List (S72)) (r1 : ByteArray) (r2 : Bool) (w : World) (hr0 : Kd.C k72 w A0 l0.length l0) (hc0 : l0.length ≤ c0) (h : narcissusref07_Coded.f k l0 = some (r1, r2)) :
  Calls Tryz.prog 47 #[.slice A0 l0.length c0] w fun e w' => e = .returned (.tuple #[.string r1, .bool r2]) ∧ Below w.heap.size w w' := by
 have HR0 := Aside0.mk hr0
 have HC0 := Aside0.mk hc0
 clear hr0 hc0
 have HB := Aside0.mk (Below.refl w.heap.size w)
 have H : ((narcissusref04_Fits.f k l0).bind fun t1 => (if t1 = true then ((narcissusref02_Code.f k l0).bind fun t2 => (some (t2, decide ((t2.size : Int) ≤ 2000000)))) else (some ((⟨#[]⟩ : ByteArray), false)))) = some (r1, r2) := h
 clear h
 replace H := Option.bind_eq_some_iff.mp H
 obtain ⟨t1, A20, H⟩ := H
 replace H : (if t1 = true then ((narcissusref02_Code.f k l0).bind fun t2 => (some (t2, decide ((t2.size : Int) ≤ 2000000)))) else (some ((⟨#[]⟩ : ByteArray), false))) = some (r1, r2) := H
 have A2 := Aside0.mk A20
 clear A20
 by_cases c3 : t1 = true
 ·subst c3
  have H1 : ((narcissusref02_Code.f k l0).bind fun t2 => (some (t2, decide ((t2.size : Int) ≤ 2000000)))) = some (r1, r2) := by rw [if_pos rfl] at H; exact H
  clear H
  have H := H1
  clear H1
  replace H := Option.bind_eq_some_iff.mp H
  obtain ⟨t2, A40, H⟩ := H
  replace H : (some (t2, decide ((t2.size : Int) ≤ 2000000))) = some (r1, r2) := H
  have A4 := Aside0.mk A40
  clear A40
  simp only [Option.some.injEq, Prod.mk.injEq] at H
  obtain ⟨rfl, rfl⟩ := H
  go_enter Tryz.func47, Tryz.ntmps47
  go_wp2_with (first | ((with_reducible refine gate_callee (f := 63) rfl ?_); refine goesL_ (some 6) rfl rfl Tryz.func63 (by kernel_rfl) rfl #[.slice A0 l0.length c0] rfl (by (try simp only [List.map_toArray, List.map_cons, List.map_nil]); first | done | rfl | (simp only [List.length_drop, List.length_take]; rfl)) ?_; (with_reducible refine (narcissusref04_Fits.calls k _ _ l0 true _ ?side1 ?side2 A2.out).mono ?_); (case side1 => repeat (first | exact HR0.out | (with_reducible refine Kd.C_alloc ?_ _) | (with_reducible refine Kd.C_drewN ?_ _) | (with_reducible refine Kd.C_drew ?_))); (case side2 => exact HC0.out); rintro e w' ⟨rfl, ⟨nd, rfl⟩⟩; refine ⟨_, rfl, ?_⟩) | ((with_reducible refine gate_callee (f := 64) rfl ?_); refine goesL_ (some 9) rfl rfl Tryz.func64 (by kernel_rfl) rfl #[.slice A0 l0.length c0] rfl (by (try simp only [List.map_toArray, List.map_cons, List.map_nil]); first | done | rfl | (simp only [List.length_drop, List.length_take]; rfl)) ?_; (with_reducible refine (narcissusref02_Code.calls k _ _ l0 t2 _ ?side1 ?side2 A4.out).mono ?_); (case side1 => repeat (first | exact HR0.out | (with_reducible refine Kd.C_alloc ?_ _) | (with_reducible refine Kd.C_drewN ?_ _) | (with_reducible refine Kd.C_drew ?_))); (case side2 => exact HC0.out); rintro e w5 ⟨rfl, hb⟩; refine ⟨_, rfl, ?_⟩; have n0_ := Aside0.mk (below_step (by repeat (first | (with_reducible first | exact HB.out | apply below_alloc | apply pw_below_drewN | apply below_drew1) | exact HB.out)) hb); clear HB; have HB := n0_; clear n0_; (try clear hb); (try clear hb2); (try clear hk); (try clear hi)))
  go_ret2
  exact ⟨by first | rfl | (simp [errW_none, errW_some] <;> rfl) | (simp [*, errW_none, errW_some] <;> rfl), by repeat (first | (with_reducible first | exact HB.out | apply below_alloc | apply pw_below_drewN | apply below_drew1) | exact HB.out)⟩
 ·replace c3 := Bool.eq_false_iff.mpr c3
  subst c3
  have H1 : (some ((⟨#[]⟩ : ByteArray), false)) = some (r1, r2) := by rw [if_neg (show ¬ (false = true) by decide)] at H; exact H
  clear H
  have H := H1
  clear H1
  simp only [Option.some.injEq, Prod.mk.injEq] at H
  obtain ⟨rfl, rfl⟩ := H
  go_enter Tryz.func47, Tryz.ntmps47
  go_wp2_with (first | ((with_reducible refine gate_callee (f := 63) rfl ?_); refine goesL_ (some 6) rfl rfl Tryz.func63 (by kernel_rfl) rfl #[.slice A0 l0.length c0] rfl (by (try simp only [List.map_toArray, List.map_cons, List.map_nil]); first | done | rfl | (simp only [List.length_drop, List.length_take]; rfl)) ?_; (with_reducible refine (narcissusref04_Fits.calls k _ _ l0 false _ ?side1 ?side2 A2.out).mono ?_); (case side1 => repeat (first | exact HR0.out | (with_reducible refine Kd.C_alloc ?_ _) | (with_reducible refine Kd.C_drewN ?_ _) | (with_reducible refine Kd.C_drew ?_))); (case side2 => exact HC0.out); rintro e w' ⟨rfl, ⟨nd, rfl⟩⟩; refine ⟨_, rfl, ?_⟩))
  go_ret2
  exact ⟨by first | rfl | (simp [errW_none, errW_some] <;> rfl) | (simp [*, errW_none, errW_some] <;> rfl), by repeat (first | (with_reducible first | exact HB.out | apply below_alloc | apply pw_below_drewN | apply below_drew1) | exact HB.out)⟩
end Go.Proofs.YtocoamgbpoommaaGreatDoor.C
end
section
namespace Go.Proofs.YtocoamgbpoommaaGreatDoor.C
open Go.RowKit Go.Proofs.YtocoamgbpoommaaGreatDoorW.PrintWords Go.Proofs.YtocoamgbpoommaaGreatDoorW.PrintLast Go.Proofs.YtocoamgbpoommaaGreatDoorW.PrintMore
attribute [local go_sem] max2_int min2_int max_two min_two max_three min_three max_four min_four
set_option linter.unusedVariables false
set_option linter.unusedSimpArgs false
def narcissusref05_head.f (a0 : ByteArray) : Option ((List (S72))) := some (([(⟨0, 1, 0, 0, a0⟩ : S72), (⟨2, 0, 1, 0, (⟨#[]⟩ : ByteArray)⟩ : S72), (⟨0, 1, 0, 0, (⟨#[48]⟩ : ByteArray)⟩ : S72)] : List (S72)))
end Go.Proofs.YtocoamgbpoommaaGreatDoor.C
end
section
namespace Go.Proofs.YtocoamgbpoommaaGreatDoor.C
open Go.RowKit Go.Proofs.YtocoamgbpoommaaGreatDoorW.PrintWords Go.Proofs.YtocoamgbpoommaaGreatDoorW.PrintLast Go.Proofs.YtocoamgbpoommaaGreatDoorW.PrintMore
attribute [local go_sem] max2_int min2_int max_two min_two max_three min_three max_four min_four
set_option linter.unusedVariables false
set_option linter.unusedSimpArgs false
def narcissusref05_Spec.f (l0 : List (S72)) (a1 : ByteArray) : Option ((List (S72))) := (narcissusref05_head.f a1).bind fun t1 => (if t1.length + l0.length < 2932031007402 then (some (t1 ++ l0)) else (none))
end Go.Proofs.YtocoamgbpoommaaGreatDoor.C
end
section
namespace Go.Proofs.YtocoamgbpoommaaGreatDoor.Plain
open Go.Proofs.YtocoamgbpoommaaGreatDoor.C
open Go.RowKit Go.Proofs.YtocoamgbpoommaaGreatDoorW.PrintWords Go.Proofs.YtocoamgbpoommaaGreatDoorW.PrintLast Go.Proofs.YtocoamgbpoommaaGreatDoorW.PrintMore
set_option linter.unusedVariables false
set_option linter.unusedSimpArgs false
def VI (p : List Ins) : Prop := ∀ j (h : j < p.length), Right p[j] j p.length
theorem rd_ins (p : List Ins) (j : Nat) (h : j < p.length) : rd_T72 p (j : Int) = p[j] := rd_at p j h
theorem okp_iff {p : List Ins} : OKP p ↔ p.length ≤ 4000 ∧ sizes p ≤ 2000000 ∧ VI p := by
  unfold OKP VI
  exact and_congr_right fun _ => and_congr_right fun _ => ⟨fun h j hj => by rw [← rd_ins p j hj]; exact h j hj, fun h j hj => by rw [rd_ins p j hj]; exact h j hj⟩
theorem right_wider {x : Ins} {i m n : Int} (h : Right x i m) (hmn : m ≤ n) : Right x i n := by
  unfold Right at *
  rcases h with h | h | h | h
  · exact .inl h
  · exact .inr (.inl h)
  · exact .inr (.inr (.inl h))
  · exact .inr (.inr (.inr ⟨h.1, h.2.1, h.2.2.1, by omega, h.2.2.2.2⟩))
theorem right_on {x : Ins} {i n : Int} (m : Int) (hm : 0 ≤ m) (h : Right x i n) : Right x (m + i) (m + n) := by
  unfold Right at *
  rcases h with h | h | h | h
  · exact .inl h
  · exact .inr (.inl h)
  · exact .inr (.inr (.inl h))
  · exact .inr (.inr (.inr ⟨h.1, h.2.1, by omega, by omega, h.2.2.2.2⟩))
theorem vi_append {p q : List Ins} (hp : VI p) (hq : VI q) : VI (p ++ q) := by
  intro j hj
  rw [List.length_append] at hj
  by_cases h : j < p.length
  · rw [List.getElem_append_left h, List.length_append]
    exact right_wider (hp j h) (by omega)
  · rw [List.getElem_append_right (by omega), List.length_append]
    have := right_on (p.length : Int) (by omega) (hq (j - p.length) (by omega))
    rw [show (p.length : Int) + ((j - p.length : Nat) : Int) = (j : Int) from by omega] at this
    simpa using this
def rightB (x : Ins) (i n : Int) : Bool :=
  decide (0 ≤ x.f1 ∧ x.f1 < 32) && (
  (x.f0 == 0 && x.f2 == 0 && x.f3 == 0 && decide (x.f4.size ≤ 2000000) && endL (bl x.f4) 1 0 == some (bl x.f4).length) ||
  ((x.f0 == 1 || x.f0 == 3 || x.f0 == 4) && decide (0 ≤ x.f2 ∧ x.f2 < 32) && x.f3 == 0 && (bl x.f4).isEmpty) ||
  (x.f0 == 2 && decide (0 ≤ x.f2 ∧ x.f2 < 32) && decide (0 ≤ x.f3 ∧ x.f3 < 32) && (bl x.f4).isEmpty) ||
  (x.f0 == 5 && decide (-i ≤ x.f2) && decide (x.f2 ≤ n - i) && x.f3 == 0 && (bl x.f4).isEmpty))
theorem right_of_B {x : Ins} {i n : Int} (h : rightB x i n = true) : Right x i n := by
  unfold rightB at h
  simp only [Bool.and_eq_true, Bool.or_eq_true, decide_eq_true_eq, beq_iff_eq, List.isEmpty_iff] at h
  obtain ⟨h1, h⟩ := h
  unfold Right Reg ValidT
  rcases h with ((h | h) | h) | h
  · exact .inl ⟨h.1.1.1.1, h1, h.1.1.1.2, h.1.1.2, h.1.2, isT_iff.2 h.2⟩
  · exact .inr (.inl ⟨by have := h.1.1.1; omega, h1, h.1.1.2, h.1.2, h.2⟩)
  · exact .inr (.inr (.inl ⟨h.1.1.1, h1, h.1.1.2, h.1.2, h.2⟩))
  · exact .inr (.inr (.inr ⟨h.1.1.1.1, h1, h.1.1.1.2, h.1.1.2, h.1.2, h.2⟩))
def viB (p : List Ins) (n : Int) : Nat → List Ins → Bool
  | _, [] => true
  | i, x :: l => rightB x i n && viB p n (i + 1) l
theorem vi_of_B : ∀ (l : List Ins) (p : List Ins) (n : Int) (i : Nat), viB p n i l = true → ∀ j (h : j < l.length), Right l[j] ((i + j : Nat) : Int) n
  | x :: l, p, n, i, h, 0, _ => by
    unfold viB at h
    rw [Bool.and_eq_true] at h
    exact right_of_B h.1
  | x :: l, p, n, i, h, j + 1, hj => by
    unfold viB at h
    rw [Bool.and_eq_true] at h
    have := vi_of_B l p n (i + 1) h.2 j (by simpa using hj)
    rw [show i + 1 + j = i + (j + 1) from by omega] at this
    exact this
theorem vi_ringHead : VI ringHead := fun j hj => by
  have := vi_of_B ringHead ringHead ringHead.length 0 (by decide +kernel) j hj
  rwa [Nat.zero_add] at this
def specHead (y : ByteArray) : List Ins := [⟨0, 1, 0, 0, y⟩, ⟨2, 0, 1, 0, ⟨#[]⟩⟩, ⟨0, 1, 0, 0, ⟨#[48]⟩⟩]
theorem vi_specHead {y : ByteArray} (h : ValidT y) : VI (specHead y) := by
  intro j hj
  match j, hj with
  | 0, _ => exact .inl ⟨rfl, ⟨show (0 : Int) ≤ 1 by decide, show (1 : Int) < 32 by decide⟩, rfl, rfl, h⟩
  | 1, _ => exact .inr (.inr (.inl ⟨rfl, ⟨show (0 : Int) ≤ 0 by decide, show (0 : Int) < 32 by decide⟩, ⟨show (0 : Int) ≤ 1 by decide, show (1 : Int) < 32 by decide⟩, ⟨show (0 : Int) ≤ 0 by decide, show (0 : Int) < 32 by decide⟩, rfl⟩))
  | 2, _ => exact .inl ⟨rfl, ⟨show (0 : Int) ≤ 1 by decide, show (1 : Int) < 32 by decide⟩, rfl, rfl, ⟨show (⟨#[48]⟩ : ByteArray).size ≤ 2000000 by decide, isT_nil⟩⟩
theorem vi_fits {p : List Ins} (h : VI p) : Fits p := by
  intro x hx
  obtain ⟨j, hj, rfl⟩ := List.getElem_of_mem hx
  rcases h j hj with h | h | h | h
  · have := h.2.2.2.2.1; omega
  · have h1 := h.2.2.2.2; rw [← bl_len, h1]; simp
  · have h1 := h.2.2.2.2; rw [← bl_len, h1]; simp
  · have h1 := h.2.2.2.2.2; rw [← bl_len, h1]; simp
def lsum : List (List Ins) → Nat
  | [] => 0
  | e :: l => 1 + (codeL e).length + lsum l
def tabL (rs : List (List Ins)) : List UInt8 := lst (rs.map codeL)
theorem tabL_length : ∀ l, (tabL l).length = lsum l + 1
  | [] => rfl
  | e :: l => by
    have := tabL_length l
    unfold tabL at *
    simp only [List.map_cons, lst, List.length_cons, List.length_append, lsum, this]
    omega
def GoodL (l : List (List Ins)) : Prop := (∀ e ∈ l, OKP e) ∧ lsum l < 2000000
theorem rd_prg (l : List (List Ins)) (i : Nat) (h : i < l.length) : rd_L3 l (i : Int) = l[i] := by unfold rd_L3; simp [h]
open Classical in
theorem ringList_l (l : List (List Ins)) (hl : l.length ≤ 1000) : ∀ (d k i : Nat) (xs : List Int), l.length - i = d → i ≤ l.length → d + 4020 < k → xs.length < 2000000 →
    ((∀ e ∈ l.drop i, OKP e) ∧ xs.length + lsum (l.drop i) < 2000000 → ∃ r, ring_list.l0 k xs l (l.length : Int) (i : Int) = some (r, 0) ∧ bl r = xs.map (fun n => UInt8.ofNat n.toNat) ++ tabL (l.drop i)) ∧
    (¬ ((∀ e ∈ l.drop i, OKP e) ∧ xs.length + lsum (l.drop i) < 2000000) → ring_list.l0 k xs l (l.length : Int) (i : Int) = some (⟨#[]⟩, 3))
  | d, k, i, xs, hd, hi, hk, hx => by
    obtain ⟨k, rfl⟩ : ∃ m, k = m + 1 := ⟨k - 1, by omega⟩
    by_cases hlt : i < l.length
    · have hdrop : l.drop i = l[i] :: l.drop (i + 1) := List.drop_eq_getElem_cons hlt
      have hstep : ring_list.l0 (k + 1) xs l (l.length : Int) (i : Int) = (code_Valid.f k l[i]).bind fun t5 => (if t5 = true then ((code_Code.f k l[i]).bind fun bt6 => (if bt6.2 = 0 then ((some (xs ++ [49] : List Int)).bind fun y8 => (if y8.length + bt6.1.size < 140737488355328 then ((some (y8 ++ bytesOf bt6.1 : List Int)).bind fun y11 => (if (y11.length : Int) ≥ 2000000 then (some ((⟨#[]⟩ : ByteArray), 3)) else (ring_list.l0 k y11 l (l.length : Int) (wrap64 ((i : Int) + 1))))) else (none))) else (some ((⟨#[]⟩ : ByteArray), bt6.2)))) else (some ((⟨#[]⟩ : ByteArray), 3))) := by
        rw [ring_list.l0, if_pos (by omega), if_pos (by omega), if_pos (by omega), rd_prg l i hlt]
        simp only [if_pos (show xs.length < 140737488355328 by omega)]
      by_cases hok : OKP l[i]
      · have hsm := codeL_small hok
        rw [hstep, validp_yes (by omega) hok, Option.bind_some, if_pos rfl, code_yes (by omega) hok, hdrop]
        by_cases hz : 2000000 < (codeL l[i]).length
        · rw [if_pos hz, Option.bind_some, if_neg (by decide)]
          refine ⟨fun h => ?_, fun _ => rfl⟩
          have := h.2
          simp only [lsum] at this
          omega
        · rw [if_neg hz, Option.bind_some, if_pos rfl, Option.bind_some, List.length_append, List.length_singleton, bs_size, if_pos (by omega), Option.bind_some, List.length_append, List.length_append, List.length_singleton, bytesOf_length, bs_size]
          by_cases hy : ((xs.length + 1 + (codeL l[i]).length : Nat) : Int) ≥ 2000000
          · rw [if_pos hy]
            refine ⟨fun h => ?_, fun _ => rfl⟩
            have := h.2
            simp only [lsum] at this
            omega
          · rw [if_neg hy, wrap_small (by omega) (by omega), show (i : Int) + 1 = ((i + 1 : Nat) : Int) from rfl]
            have hn : (xs ++ [49] ++ bytesOf (bs (codeL l[i]))).length = xs.length + 1 + (codeL l[i]).length := by rw [List.length_append, List.length_append, List.length_singleton, bytesOf_length, bs_size]
            obtain ⟨h1, h2⟩ := ringList_l l hl (l.length - (i + 1)) k (i + 1) (xs ++ [49] ++ bytesOf (bs (codeL l[i]))) rfl (by omega) (by omega) (by rw [hn]; omega)
            rw [hn] at h1 h2
            constructor
            · rintro ⟨g1, g2⟩
              simp only [lsum] at g2
              obtain ⟨r, e, hr⟩ := h1 ⟨fun e he => g1 e (List.mem_cons_of_mem _ he), by omega⟩
              refine ⟨r, e, ?_⟩
              have e49 : ([49] : List Int).map (fun n : Int => UInt8.ofNat n.toNat) = [49] := rfl
              rw [hr, List.map_append, List.map_append, nums_bytes, e49, bl_bs]
              show _ = xs.map (fun n => UInt8.ofNat n.toNat) ++ (49 :: (codeL l[i] ++ tabL (l.drop (i + 1))))
              simp
            · intro hno
              refine h2 fun g => hno ⟨fun e he => ?_, ?_⟩
              · rcases List.mem_cons.1 he with rfl | he
                · exact hok
                · exact g.1 e he
              · have := g.2
                simp only [lsum]
                omega
      · rw [hstep, validp_no (by omega) hok, Option.bind_some, if_neg (by decide), hdrop]
        exact ⟨fun h => absurd (h.1 _ List.mem_cons_self) hok, fun _ => rfl⟩
    · rw [ring_list.l0, if_neg (by omega), if_pos (by omega), List.drop_eq_nil_of_le (by omega)]
      refine ⟨fun _ => ⟨_, rfl, ?_⟩, fun h => absurd ⟨fun e he => (by cases he), by simp only [lsum]; omega⟩ h⟩
      rw [bl_nums, List.map_append]
      rfl
  termination_by d => d
theorem ringList_yes {l : List (List Ins)} (hl : l.length ≤ 1000) (h : GoodL l) (k : Nat) (hk : 6000 ≤ k) : ring_list.f k l = some (bs (tabL l), 0) := by
  unfold ring_list.f
  obtain ⟨r, e, hr⟩ := (ringList_l l hl l.length k 0 [] rfl (by omega) (by omega) (by simp)).1 (by simpa [GoodL] using h)
  rw [show ((0 : Nat) : Int) = 0 from rfl] at e
  rw [e, eq_bs hr]
  rfl
end Go.Proofs.YtocoamgbpoommaaGreatDoor.Plain
end
