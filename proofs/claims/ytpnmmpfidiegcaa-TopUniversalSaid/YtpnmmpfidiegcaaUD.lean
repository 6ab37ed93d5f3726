/- Texts of this claim, together: what the functions return, and what they say in plain words. -/
import Derived.Test.YtpnmmpfidiegcaaUC
import Derived.Test.YtpnmmpfidiegcaaUB
import Derived.Outline
section
namespace Go.Proofs.Ytpnmmpfidiegcaa.C
open Go.RowKit Go.Proofs.YtpnmmpfidiegcaaW.PrintWords Go.Proofs.YtpnmmpfidiegcaaW.PrintLast Go.Proofs.YtpnmmpfidiegcaaW.PrintMore
open Go.Proofs.Ytpnmmpfidiegcaa.Plain (Tr bs bl bl_bs numT lstT bodyT itemT codeT OKP Right Reg dec IsT ValidT codeT_cons)
set_option linter.unusedVariables false
set_option linter.unusedSimpArgs false
set_option maxHeartbeats 8000000 in
set_option maxRecDepth 100000 in
theorem code_calls (A : Option Addr) (c : Nat) (p : List S52) (w : World) (hC : Kd.C k52 w A p.length p) (hp : OKP p) (hz : ∀ j, (codeT (p.drop j)).size ≤ 1000000000) :
    Calls Try.prog 11 #[.slice A p.length c] w fun e w' => ∃ v, e = .returned v ∧ Nd w' (codeT p) v ∧ Below w.heap.size w w' := by
  have HC := Aside0.mk hC
  have HP := Aside0.mk hp
  have HZ := Aside0.mk hz
  have h4 : p.length ≤ 4000 := hp.1
  clear hC hp hz
  go_enter Try.func11, Try.ntmps11
  go_wp2
  go_loopg [3, 4] (p.length + 1) (fun kq v3 v4 wr => ∃ i : Int, v4 = .int .i64 i ∧ Aside0 (-1 ≤ i ∧ i + 1 ≤ p.length ∧ kq = (i + 1).toNat + 1) ∧ Aside0 (Nd wr (codeT (p.drop (i + 1).toNat)) v3) ∧ Aside0 (Below w.heap.size w wr))
  case atStart => exact ⟨_, rfl, ⟨by omega, by omega, by omega⟩, ⟨by rw [show ((p.length : Int) - 1 + 1).toNat = p.length from by omega, List.drop_length]; rfl⟩, ⟨Below.refl _ _⟩⟩
  case round =>
    obtain ⟨i, rfl, HI, HN, HB⟩ := hrel
    by_cases h0 : 0 ≤ i
    · obtain ⟨m, rfl⟩ := Int.eq_ofNat_of_zero_le h0
      have hm : m < p.length := by have := HI.out; omega
      have hm1 : (m : Int) < (p.length : Int) := by omega
      obtain ⟨ad, rfl, i0, i1, i2, i3, i4⟩ := at_T52 HC.out (m : Int) h0 (by omega)
      have hrd : rd_T52 p (m : Int) = p[m] := by unfold rd_T52; simp [hm]
      have hR := HP.out.2.2 m hm
      have hcd : codeT (p.drop m) = .cons (itemT p[m]) (codeT (p.drop (m + 1))) := by rw [List.drop_eq_getElem_cons hm, codeT_cons]
      have hzz := HZ.out m
      rw [hcd] at hzz
      rw [hrd] at hR
      rw [hrd, Int.toNat_natCast] at i0 i1 i2 i3 i4
      rw [show ((m : Int) + 1).toNat = m + 1 from by omega] at HN
      clear hrd
      generalize codeT (p.drop (m + 1)) = R at *
      generalize p[m] = x at *
      obtain ⟨f0, f1, f2, f3, f4⟩ := x
      dsimp only at i0 i1 i2 i3 i4
      replace i0 := pw_cell_below HB.out i0
      replace i1 := pw_cell_below HB.out i1
      replace i2 := pw_cell_below HB.out i2
      replace i3 := pw_cell_below HB.out i3
      replace i4 := pw_cell_below HB.out i4
      have HCD := Aside0.mk hcd
      have HZZ := Aside0.mk hzz
      clear hcd hzz
      obtain ⟨k2, rfl⟩ : ∃ k2, gk = k2 + 1 := ⟨gk - 1, by have := HI.out; omega⟩
      have hXX := blk_new wr (.cells #[.int .i64 f0, .int .i64 f1, .int .i64 f2, .int .i64 f3, .string f4] 52 (0, 0))
      have hXB := below_alloc (Below.refl wr.heap.size wr) (.cells #[.int .i64 f0, .int .i64 f1, .int .i64 f2, .int .i64 f3, .string f4] 52 (0, 0))
      rcases hR with ⟨h0, hA, h2, h3, hT⟩ | ⟨h0, hA, h2, h3, hT⟩ | ⟨h0, hA, h2, h3, hT⟩ | ⟨h0, hA, h2a, h2b, h3, hT⟩
      case' inl =>
        dsimp only at h0 hA h2 h3 hT
        subst h0 h2 h3
        have HT := Aside0.mk hT
        have HA := Aside0.mk hA
        have HXX := Aside0.mk hXX
        have HXB := Aside0.mk hXB
        have HIT : Aside0 (itemT ⟨0, f1, 0, 0, f4⟩ = .cons (numT (0 : Int).toNat) (.cons (numT f1.toNat) (dec f4.data.toList))) := ⟨rfl⟩
        clear hT hA hXX hXB
        go_wp2_with fail
        refine (grow_yes f4 2000000 _ ⟨by have := HT.out.1; omega, HT.out.2⟩ (by have := HT.out.1; omega)).mono ?_
        rintro e W ⟨v6, rfl, hy, hbw⟩
        generalize dec f4.data.toList = rest at hy HIT
        have HY := Aside0.mk hy
        have HBW := Aside0.mk (below_then HXB.out HXB.out.size hbw)
        have HXW := Aside0.mk ((hbw.block _ (by simp)).trans HXX.out)
        clear hy hbw HXX HXB HT
      case' inr.inl =>
        dsimp only at h0 hA h2 h3 hT
        subst h3
        have HA := Aside0.mk hA
        have HXX := Aside0.mk hXX
        have HXB := Aside0.mk hXB
        have hf2 : f2 ≤ 1000000 := by have := h2.2; omega
        have HIT : Aside0 (itemT ⟨f0, f1, f2, 0, f4⟩ = .cons (numT f0.toNat) (.cons (numT f1.toNat) (numT f2.toNat))) := ⟨by
          unfold itemT bodyT
          dsimp only
          rw [if_neg (by omega), if_neg (by omega), if_neg (by omega)]⟩
        clear hT hA hXX hXB h2
        rcases h0 with rfl | rfl | rfl
        all_goals
          go_wp2_with fail
          refine (number_calls f2 _ hf2).mono ?_
          rintro e W ⟨v6, rfl, hy, hbw⟩
          generalize numT f2.toNat = rest at hy HIT
          have HY := Aside0.mk hy
          have HBW := Aside0.mk (below_then HXB.out HXB.out.size hbw)
          have HXW := Aside0.mk ((hbw.block _ (by simp)).trans HXX.out)
          clear hy hbw HXX HXB
      case' inr.inr.inl =>
        dsimp only at h0 hA h2 h3 hT
        subst h0
        have HA := Aside0.mk hA
        have HXX := Aside0.mk hXX
        have HXB := Aside0.mk hXB
        have hf2 : f2 ≤ 1000000 := by have := h2.2; omega
        have hf3 : f3 ≤ 1000000 := by have := h3.2; omega
        have HIT : Aside0 (itemT ⟨2, f1, f2, f3, f4⟩ = .cons (numT (2 : Int).toNat) (.cons (numT f1.toNat) (.cons (numT f2.toNat) (numT f3.toNat)))) := ⟨rfl⟩
        have HZZ2 := HZZ.out
        rw [HIT.out] at HZZ2
        have HZ2 := Aside0.mk HZZ2
        have HBA := Aside0.mk (below_drew (Below.refl (wr.alloc (.cells #[.int .i64 2, .int .i64 f1, .int .i64 f2, .int .i64 f3, .string f4] 52 (0, 0))).heap.size (wr.alloc (.cells #[.int .i64 2, .int .i64 f1, .int .i64 f2, .int .i64 f3, .string f4] 52 (0, 0)))))
        have c2 := (blk_cell HXX.out 2).trans rfl
        have c3 := (blk_cell HXX.out 3).trans rfl
        clear hT hA hXX hXB h2 h3 HZZ2
        go_wp2
        go_region_law (first
          | (go_simp; go_at_call 42; first
              | ((with_reducible refine (number_calls f2 _ hf2).mono ?_); rintro e W ⟨v35, rfl, hq, hbq⟩; have H35 := Aside0.mk hq; (try have H38 := Aside0.mk (Nd.keep (NK.below hbq) _ _ H38.out)); have HBA := Aside0.mk (below_then HBA.out HBA.out.size hbq); replace c2 := pw_cell_below hbq c2; replace c3 := pw_cell_below hbq c3; clear hq hbq)
              | ((with_reducible refine (number_calls f3 _ hf3).mono ?_); rintro e W ⟨v38, rfl, hq, hbq⟩; have H38 := Aside0.mk hq; (try have H35 := Aside0.mk (Nd.keep (NK.below hbq) _ _ H35.out)); have HBA := Aside0.mk (below_then HBA.out HBA.out.size hbq); replace c2 := pw_cell_below hbq c2; replace c3 := pw_cell_below hbq c3; clear hq hbq))
          | (go_simp; go_at_call 10; ((with_reducible refine (Cons_calls _ _ v35 v38 _ H35.out H38.out (by have := HZ2.out; simp only [Tr.size] at this ⊢; omega) (by have := HZ2.out; simp only [Tr.size] at this ⊢; omega)).mono ?_); rintro e W ⟨v6, rfl, hy, hbq⟩; have HY := Aside0.mk hy; have HBA := Aside0.mk (below_then HBA.out HBA.out.size hbq); clear hbq hy)))
        all_goals
          generalize Tr.cons (numT f2.toNat) (numT f3.toNat) = rest at HY HIT
          have HXW := Aside0.mk ((HBA.out.block _ (by simp)).trans HXX.out)
          have HBW := Aside0.mk (below_then HXB.out HXB.out.size HBA.out)
          clear c2 c3 HZ2 HBA HXX HXB hf2 hf3
      case' inr.inr.inr =>
        dsimp only at h0 hA h2a h2b h3 hT
        subst h0 h3
        have HA := Aside0.mk hA
        have HXX := Aside0.mk hXX
        have HXB := Aside0.mk hXB
        have hf2 : f2 ≤ 1000000 := by omega
        have hf3 : -f2 ≤ 1000000 := by omega
        have c2 := (blk_cell HXX.out 2).trans rfl
        clear hT hA hXX hXB
        go_wp2_with fail
        refine (number_calls f2 _ hf2).mono ?_
        rintro e W1 ⟨v44, rfl, hy, hb1⟩
        have c2 := pw_cell_below hb1 c2
        have HY1 := Aside0.mk hy
        have HB1 := Aside0.mk hb1
        clear hy hb1
        have HSZ : Aside0 ((numT f2.toNat).size ≤ 1000000000000 ∧ (numT (-f2).toNat).size ≤ 1000000000000) := ⟨by rw [numT_size', numT_size']; omega⟩
        go_wp2_with fail
        refine (Cons_calls .nil (numT f2.toNat) (.pointer none) v44 _ rfl HY1.out (by decide) HSZ.out.1).mono ?_
        rintro e W ⟨v6, rfl, hy, hb2⟩
        have HBA := Aside0.mk (below_then HB1.out HB1.out.size hb2)
        replace c2 := pw_cell_below hb2 c2
        by_cases hneg : f2 < 0
        case' pos =>
          have HIT : Aside0 (itemT ⟨5, f1, f2, 0, f4⟩ = .cons (numT (5 : Int).toNat) (.cons (numT f1.toNat) (.cons (.cons .nil .nil) (numT (-f2).toNat)))) := ⟨by
            unfold itemT bodyT
            dsimp only
            rw [if_neg (by decide), if_neg (by decide), if_pos rfl, if_pos hneg]⟩
          have t9 : decide (f2 < 0) = true := decide_eq_true hneg
          have HWR : Aside0 (IntKind.i64.wrap (-f2) = -f2) := ⟨by rw [i64_w]; unfold wrap64; omega⟩
          have HBA := Aside0.mk (below_drew HBA.out)
          clear hy hb2 HB1 HY1 hneg
          go_wp2
          go_region_law (first
            | (go_simp; go_at_call 42; first
                | ((with_reducible refine (number_calls 1 _ (by decide)).mono ?_); rintro e W ⟨v49, rfl, hq, hbq⟩; have H49 := Aside0.mk hq; (try have H53 := Aside0.mk (Nd.keep (NK.below hbq) _ _ H53.out)); have HBA := Aside0.mk (below_then HBA.out HBA.out.size hbq); replace c2 := pw_cell_below hbq c2; clear hq hbq)
                | ((with_reducible refine (number_calls (IntKind.i64.wrap (-f2)) _ (by rw [HWR.out]; exact hf3)).mono ?_); rintro e W ⟨v53, rfl, hq, hbq⟩; rw [HWR.out] at hq; have H53 := Aside0.mk hq; (try have H49 := Aside0.mk (Nd.keep (NK.below hbq) _ _ H49.out)); have HBA := Aside0.mk (below_then HBA.out HBA.out.size hbq); replace c2 := pw_cell_below hbq c2; clear hq hbq))
            | (go_simp; go_at_call 10; ((with_reducible refine (Cons_calls _ _ v49 v53 _ H49.out H53.out (by decide) HSZ.out.2).mono ?_); rintro e W ⟨v6, rfl, hy, hbq⟩; have HY : Aside0 (Nd W (.cons (.cons .nil .nil) (numT (-f2).toNat)) v6) := Aside0.mk hy; have HBA := Aside0.mk (below_then HBA.out HBA.out.size hbq); clear hbq hy)))
        case' neg =>
          have HIT : Aside0 (itemT ⟨5, f1, f2, 0, f4⟩ = .cons (numT (5 : Int).toNat) (.cons (numT f1.toNat) (.cons .nil (numT f2.toNat)))) := ⟨by
            unfold itemT bodyT
            dsimp only
            rw [if_neg (by decide), if_neg (by decide), if_pos rfl, if_neg hneg]⟩
          have t9 : decide (f2 < 0) = false := decide_eq_false hneg
          have HY := Aside0.mk hy
          clear hy hb2 HB1 HY1 hneg
        all_goals
          first | generalize Tr.cons (.cons .nil .nil) (numT (-f2).toNat) = rest at HY HIT | generalize Tr.cons .nil (numT f2.toNat) = rest at HY HIT
          have HXW := Aside0.mk ((HBA.out.block _ (by simp)).trans HXX.out)
          have HBW := Aside0.mk (below_then HXB.out HXB.out.size HBA.out)
          clear HSZ HBA HXX HXB hf2 hf3
      all_goals
        have HZR := Aside0.mk HZZ.out
        rw [HIT.out] at HZR
        have HNW := Aside0.mk (Nd.keep (NK.trans (NK.below HBW.out) (NK.drew W)) _ _ HN.out)
        have HYW := Aside0.mk (Nd.keep (NK.drew W) _ _ HY.out)
        have HBC := Aside0.mk (below_drew HBW.out)
        have c0 := (blk_cell HXW.out 0).trans rfl
        have c1 := (blk_cell HXW.out 1).trans rfl
        have hf1 : f1 ≤ 1000000 := by have := HA.out.2; omega
        go_wp2
        go_region_law (first
          | (go_simp; go_at_call 42; first
              | ((with_reducible refine (number_calls f1 _ hf1).mono ?_); rintro e wq ⟨v60, rfl, hq, hbq⟩; have H60 := Aside0.mk hq; (try have H57 := Aside0.mk (Nd.keep (NK.below hbq) _ _ H57.out)); have HYW := Aside0.mk (Nd.keep (NK.below hbq) _ _ HYW.out); have HNW := Aside0.mk (Nd.keep (NK.below hbq) _ _ HNW.out); have HBC := Aside0.mk (below_then HBC.out HBC.out.size hbq); replace c0 := pw_cell_below hbq c0; replace c1 := pw_cell_below hbq c1; clear hq hbq)
              | ((with_reducible refine (number_calls _ _ (by decide)).mono ?_); rintro e wq ⟨v57, rfl, hq, hbq⟩; have H57 := Aside0.mk hq; (try have H60 := Aside0.mk (Nd.keep (NK.below hbq) _ _ H60.out)); (try have H62 := Aside0.mk (Nd.keep (NK.below hbq) _ _ H62.out)); have HYW := Aside0.mk (Nd.keep (NK.below hbq) _ _ HYW.out); have HNW := Aside0.mk (Nd.keep (NK.below hbq) _ _ HNW.out); have HBC := Aside0.mk (below_then HBC.out HBC.out.size hbq); replace c0 := pw_cell_below hbq c0; replace c1 := pw_cell_below hbq c1; clear hq hbq))
          | (go_simp; go_at_call 10; first
              | ((with_reducible refine (Cons_calls _ _ v63 u3 _ H63.out HNW.out (by have := HZR.out; simp only [Tr.size] at this ⊢; omega) (by have := HZR.out; simp only [Tr.size] at this ⊢; omega)).mono ?_); rintro e wq ⟨v65, rfl, hq, hbq⟩; have H65 := Aside0.mk hq; have HBC := Aside0.mk (below_then HBC.out HBC.out.size hbq); replace c0 := pw_cell_below hbq c0; replace c1 := pw_cell_below hbq c1; clear hq hbq)
              | ((with_reducible refine (Cons_calls _ _ v57 v62 _ H57.out H62.out (by have := HZR.out; simp only [Tr.size] at this ⊢; omega) (by have := HZR.out; simp only [Tr.size] at this ⊢; omega)).mono ?_); rintro e wq ⟨v63, rfl, hq, hbq⟩; have H63 := Aside0.mk hq; have HNW := Aside0.mk (Nd.keep (NK.below hbq) _ _ HNW.out); have HBC := Aside0.mk (below_then HBC.out HBC.out.size hbq); replace c0 := pw_cell_below hbq c0; replace c1 := pw_cell_below hbq c1; clear hq hbq)
              | ((with_reducible refine (Cons_calls _ _ v60 v6 _ H60.out HYW.out (by have := HZR.out; simp only [Tr.size] at this ⊢; omega) (by have := HZR.out; simp only [Tr.size] at this ⊢; omega)).mono ?_); rintro e wq ⟨v62, rfl, hq, hbq⟩; have H62 := Aside0.mk hq; (try have H57 := Aside0.mk (Nd.keep (NK.below hbq) _ _ H57.out)); have HNW := Aside0.mk (Nd.keep (NK.below hbq) _ _ HNW.out); have HBC := Aside0.mk (below_then HBC.out HBC.out.size hbq); replace c0 := pw_cell_below hbq c0; replace c1 := pw_cell_below hbq c1; clear hq hbq)))
        all_goals
          go_wp2
          go_roundg k2
          case measure => omega
          case rel =>
            have hi := HI.out
            refine ⟨(m : Int) - 1, by go_num, ⟨by omega, by omega, by omega⟩, ⟨?_⟩, ⟨below_then HB.out HB.out.size HBC.out⟩⟩
            rw [show ((m : Int) - 1 + 1).toNat = m from by omega, HCD.out, HIT.out]
            exact H65.out
    · obtain rfl : i = -1 := by have := HI.out; omega
      have hn := HN.out
      rw [show ((-1 : Int) + 1).toNat = 0 from rfl, List.drop_zero] at hn
      have HN := Aside0.mk hn
      clear hn
      go_wp2
      go_ret
      exact ⟨_, rfl, HN.out, HB.out⟩
end Go.Proofs.Ytpnmmpfidiegcaa.C
end
section
namespace Go.Proofs.Ytpnmmpfidiegcaa.Plain
open Go.Proofs.Ytpnmmpfidiegcaa.C
open Go.RowKit Go.Proofs.YtpnmmpfidiegcaaW.PrintWords Go.Proofs.YtpnmmpfidiegcaaW.PrintLast Go.Proofs.YtpnmmpfidiegcaaW.PrintMore
set_option linter.unusedVariables false
set_option linter.unusedSimpArgs false
def VI (p : List Ins) : Prop := ∀ j (h : j < p.length), Right p[j] j p.length
theorem rd_ins (p : List Ins) (j : Nat) (h : j < p.length) : rd_T52 p (j : Int) = p[j] := rd_at p j h
theorem okp_iff {p : List Ins} : OKP p ↔ p.length ≤ 4000 ∧ sizes p ≤ 2000000 ∧ VI p := by
  unfold OKP VI
  exact and_congr_right fun _ => and_congr_right fun _ => ⟨fun h j hj => by rw [← rd_ins p j hj]; exact h j hj, fun h j hj => by rw [rd_ins p j hj]; exact h j hj⟩
def rightB (x : Ins) (i n : Int) : Bool :=
  decide (0 ≤ x.f1 ∧ x.f1 < 32) && (
  (x.f0 == 0 && x.f2 == 0 && x.f3 == 0 && decide (x.f4.size ≤ 2000000) && endL (bl x.f4) 1 0 == some (bl x.f4).length) ||
  ((x.f0 == 1 || x.f0 == 3 || x.f0 == 4) && decide (0 ≤ x.f2 ∧ x.f2 < 32) && x.f3 == 0 && (bl x.f4).isEmpty) ||
  (x.f0 == 2 && decide (0 ≤ x.f2 ∧ x.f2 < 32) && decide (0 ≤ x.f3 ∧ x.f3 < 32) && (bl x.f4).isEmpty) ||
  (x.f0 == 5 && decide (-i ≤ x.f2) && decide (x.f2 ≤ n - i) && x.f3 == 0 && (bl x.f4).isEmpty))
theorem right_of_B {x : Ins} {i n : Int} (h : rightB x i n = true) : Right x i n := by
  unfold rightB at h
  simp only [Bool.and_eq_true, Bool.or_eq_true, decide_eq_true_eq, beq_iff_eq, List.isEmpty_iff] at h
  obtain ⟨h1, h⟩ := h
  unfold Right Reg ValidT
  rcases h with ((h | h) | h) | h
  · exact .inl ⟨h.1.1.1.1, h1, h.1.1.1.2, h.1.1.2, h.1.2, isT_iff.2 h.2⟩
  · exact .inr (.inl ⟨by have := h.1.1.1; omega, h1, h.1.1.2, h.1.2, h.2⟩)
  · exact .inr (.inr (.inl ⟨h.1.1.1, h1, h.1.1.2, h.1.2, h.2⟩))
  · exact .inr (.inr (.inr ⟨h.1.1.1.1, h1, h.1.1.1.2, h.1.1.2, h.1.2, h.2⟩))
def viB (p : List Ins) (n : Int) : Nat → List Ins → Bool
  | _, [] => true
  | i, x :: l => rightB x i n && viB p n (i + 1) l
theorem vi_of_B : ∀ (l : List Ins) (p : List Ins) (n : Int) (i : Nat), viB p n i l = true → ∀ j (h : j < l.length), Right l[j] ((i + j : Nat) : Int) n
  | x :: l, p, n, i, h, 0, _ => by
    unfold viB at h
    rw [Bool.and_eq_true] at h
    exact right_of_B h.1
  | x :: l, p, n, i, h, j + 1, hj => by
    unfold viB at h
    rw [Bool.and_eq_true] at h
    have := vi_of_B l p n (i + 1) h.2 j (by simpa using hj)
    rw [show i + 1 + j = i + (j + 1) from by omega] at this
    exact this
end Go.Proofs.Ytpnmmpfidiegcaa.Plain
end
section
namespace Go.Proofs.Ytpnmmpfidiegcaa.C
open Go.RowKit Go.Proofs.YtpnmmpfidiegcaaW.PrintWords Go.Proofs.YtpnmmpfidiegcaaW.PrintLast Go.Proofs.YtpnmmpfidiegcaaW.PrintMore
attribute [local go_sem] max2_int min2_int max_two min_two max_three min_three max_four min_four
set_option linter.unusedVariables false
set_option linter.unusedSimpArgs false
def narcissustop_register.f (a0 : Int) : Option (Bool) := if a0 ≥ 0 then (some (decide (a0 < 32))) else (some false)
set_option maxHeartbeats 8000000 in
set_option maxRecDepth 100000 in
theorem narcissustop_register.calls (a0 : Int) (r : Bool) (w : World) (h : narcissustop_register.f a0 = some r) :
  Calls Try.prog 36 #[.int .i64 a0] w fun e w' => e = .returned (.bool r) ∧ Drawn0 w w' := by
 have H : (if a0 ≥ 0 then (some (decide (a0 < 32))) else (some false)) = some r := h
 clear h
 by_cases c2 : a0 ≥ 0
 ·rw [if_pos c2] at H
  have c2b0 : decide (0 ≤ a0) = true := decide_eq_true c2
  clear c2
  obtain rfl := Option.some.inj H
  go_enter Try.func36, Try.ntmps36
  go_wp2
  go_ret
  exact ⟨by first | rfl | (simp; done) | (simp [*]; done) | (simp [show ∀ l : List UInt8, (l != []) = !l.isEmpty from fun l => by cases l <;> rfl]; done), by repeat (first | exact Drawn0.refl _ | apply Drawn0.step)⟩
 ·rw [if_neg c2] at H
  have c2b0 : decide (0 ≤ a0) = false := decide_eq_false c2
  clear c2
  obtain rfl := Option.some.inj H
  go_enter Try.func36, Try.ntmps36
  go_wp2
  go_ret
  exact ⟨by first | rfl | (simp; done) | (simp [*]; done) | (simp [show ∀ l : List UInt8, (l != []) = !l.isEmpty from fun l => by cases l <;> rfl]; done), by repeat (first | exact Drawn0.refl _ | apply Drawn0.step)⟩
end Go.Proofs.Ytpnmmpfidiegcaa.C
end
