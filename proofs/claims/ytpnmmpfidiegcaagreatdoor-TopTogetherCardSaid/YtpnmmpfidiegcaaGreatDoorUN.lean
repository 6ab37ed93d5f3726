/- Texts of this claim, together: what the functions return, and what they say in plain words. -/
import Derived.Test.YtpnmmpfidiegcaaGreatDoorUJ
import Derived.Test.YtpnmmpfidiegcaaGreatDoorUL
import Derived.Deep.RegionLawGrows
import Derived.Test.YtpnmmpfidiegcaaGreatDoorUC
import Derived.Lib.AtoiAll
import Derived.Lib.AtoiErrMem
import Derived.Test.YtpnmmpfidiegcaaGreatDoorUB
import Derived.Test.YtpnmmpfidiegcaaGreatDoorUF
import Derived.Laws.EntriesVeiled
section
namespace Go.Proofs.YtpnmmpfidiegcaaGreatDoor.C
open Go.RowKit Go.Proofs.YtpnmmpfidiegcaaGreatDoorW.PrintWords Go.Proofs.YtpnmmpfidiegcaaGreatDoorW.PrintLast Go.Proofs.YtpnmmpfidiegcaaGreatDoorW.PrintMore
open Go.Proofs.YtpnmmpfidiegcaaGreatDoor.Plain (Tr bs bl bl_bs numT lstT bodyT itemT codeT OKP Right Reg dec IsT ValidT codeT_cons)
set_option linter.unusedVariables false
set_option linter.unusedSimpArgs false
set_option maxHeartbeats 8000000 in
set_option maxRecDepth 100000 in
theorem code_calls (A : Option Addr) (c : Nat) (p : List S52) (w : World) (hC : Kd.C k52 w A p.length p) (hp : OKP p) (hz : ∀ j, (codeT (p.drop j)).size ≤ 1000000000) :
    Calls Tryz.prog 13 #[.slice A p.length c] w fun e w' => ∃ v, e = .returned v ∧ Nd w' (codeT p) v ∧ Below w.heap.size w w' := by
  have HC := Aside0.mk hC
  have HP := Aside0.mk hp
  have HZ := Aside0.mk hz
  have h4 : p.length ≤ 4000 := hp.1
  clear hC hp hz
  go_enter Tryz.func13, Tryz.ntmps13
  go_wp2
  go_loopg [3, 4] (p.length + 1) (fun kq v3 v4 wr => ∃ i : Int, v4 = .int .i64 i ∧ Aside0 (-1 ≤ i ∧ i + 1 ≤ p.length ∧ kq = (i + 1).toNat + 1) ∧ Aside0 (Nd wr (codeT (p.drop (i + 1).toNat)) v3) ∧ Aside0 (Below w.heap.size w wr))
  case atStart => exact ⟨_, rfl, ⟨by omega, by omega, by omega⟩, ⟨by rw [show ((p.length : Int) - 1 + 1).toNat = p.length from by omega, List.drop_length]; rfl⟩, ⟨Below.refl _ _⟩⟩
  case round =>
    obtain ⟨i, rfl, HI, HN, HB⟩ := hrel
    by_cases h0 : 0 ≤ i
    · obtain ⟨m, rfl⟩ := Int.eq_ofNat_of_zero_le h0
      have hm : m < p.length := by have := HI.out; omega
      have hm1 : (m : Int) < (p.length : Int) := by omega
      obtain ⟨ad, rfl, i0, i1, i2, i3, i4⟩ := at_T52 HC.out (m : Int) h0 (by omega)
      have hrd : rd_T52 p (m : Int) = p[m] := by unfold rd_T52; simp [hm]
      have hR := HP.out.2.2 m hm
      have hcd : codeT (p.drop m) = .cons (itemT p[m]) (codeT (p.drop (m + 1))) := by rw [List.drop_eq_getElem_cons hm, codeT_cons]
      have hzz := HZ.out m
      rw [hcd] at hzz
      rw [hrd] at hR
      rw [hrd, Int.toNat_natCast] at i0 i1 i2 i3 i4
      rw [show ((m : Int) + 1).toNat = m + 1 from by omega] at HN
      clear hrd
      generalize codeT (p.drop (m + 1)) = R at *
      generalize p[m] = x at *
      obtain ⟨f0, f1, f2, f3, f4⟩ := x
      dsimp only at i0 i1 i2 i3 i4
      replace i0 := pw_cell_below HB.out i0
      replace i1 := pw_cell_below HB.out i1
      replace i2 := pw_cell_below HB.out i2
      replace i3 := pw_cell_below HB.out i3
      replace i4 := pw_cell_below HB.out i4
      have HCD := Aside0.mk hcd
      have HZZ := Aside0.mk hzz
      clear hcd hzz
      obtain ⟨k2, rfl⟩ : ∃ k2, gk = k2 + 1 := ⟨gk - 1, by have := HI.out; omega⟩
      have hXX := blk_new wr (.cells #[.int .i64 f0, .int .i64 f1, .int .i64 f2, .int .i64 f3, .string f4] 52 (0, 0))
      have hXB := below_alloc (Below.refl wr.heap.size wr) (.cells #[.int .i64 f0, .int .i64 f1, .int .i64 f2, .int .i64 f3, .string f4] 52 (0, 0))
      rcases hR with ⟨h0, hA, h2, h3, hT⟩ | ⟨h0, hA, h2, h3, hT⟩ | ⟨h0, hA, h2, h3, hT⟩ | ⟨h0, hA, h2a, h2b, h3, hT⟩
      case' inl =>
        dsimp only at h0 hA h2 h3 hT
        subst h0 h2 h3
        have HT := Aside0.mk hT
        have HA := Aside0.mk hA
        have HXX := Aside0.mk hXX
        have HXB := Aside0.mk hXB
        have HIT : Aside0 (itemT ⟨0, f1, 0, 0, f4⟩ = .cons (numT (0 : Int).toNat) (.cons (numT f1.toNat) (dec f4.data.toList))) := ⟨rfl⟩
        clear hT hA hXX hXB
        go_wp2_with fail
        refine (grow_yes f4 2000000 _ ⟨by have := HT.out.1; omega, HT.out.2⟩ (by have := HT.out.1; omega)).mono ?_
        rintro e W ⟨v6, rfl, hy, hbw⟩
        generalize dec f4.data.toList = rest at hy HIT
        have HY := Aside0.mk hy
        have HBW := Aside0.mk (below_then HXB.out HXB.out.size hbw)
        have HXW := Aside0.mk ((hbw.block _ (by simp)).trans HXX.out)
        clear hy hbw HXX HXB HT
      case' inr.inl =>
        dsimp only at h0 hA h2 h3 hT
        subst h3
        have HA := Aside0.mk hA
        have HXX := Aside0.mk hXX
        have HXB := Aside0.mk hXB
        have hf2 : f2 ≤ 1000000 := by have := h2.2; omega
        have HIT : Aside0 (itemT ⟨f0, f1, f2, 0, f4⟩ = .cons (numT f0.toNat) (.cons (numT f1.toNat) (numT f2.toNat))) := ⟨by
          unfold itemT bodyT
          dsimp only
          rw [if_neg (by omega), if_neg (by omega), if_neg (by omega)]⟩
        clear hT hA hXX hXB h2
        rcases h0 with rfl | rfl | rfl
        all_goals
          go_wp2_with fail
          refine (number_calls f2 _ hf2).mono ?_
          rintro e W ⟨v6, rfl, hy, hbw⟩
          generalize numT f2.toNat = rest at hy HIT
          have HY := Aside0.mk hy
          have HBW := Aside0.mk (below_then HXB.out HXB.out.size hbw)
          have HXW := Aside0.mk ((hbw.block _ (by simp)).trans HXX.out)
          clear hy hbw HXX HXB
      case' inr.inr.inl =>
        dsimp only at h0 hA h2 h3 hT
        subst h0
        have HA := Aside0.mk hA
        have HXX := Aside0.mk hXX
        have HXB := Aside0.mk hXB
        have hf2 : f2 ≤ 1000000 := by have := h2.2; omega
        have hf3 : f3 ≤ 1000000 := by have := h3.2; omega
        have HIT : Aside0 (itemT ⟨2, f1, f2, f3, f4⟩ = .cons (numT (2 : Int).toNat) (.cons (numT f1.toNat) (.cons (numT f2.toNat) (numT f3.toNat)))) := ⟨rfl⟩
        have HZZ2 := HZZ.out
        rw [HIT.out] at HZZ2
        have HZ2 := Aside0.mk HZZ2
        have HBA := Aside0.mk (below_drew (Below.refl (wr.alloc (.cells #[.int .i64 2, .int .i64 f1, .int .i64 f2, .int .i64 f3, .string f4] 52 (0, 0))).heap.size (wr.alloc (.cells #[.int .i64 2, .int .i64 f1, .int .i64 f2, .int .i64 f3, .string f4] 52 (0, 0)))))
        have c2 := (blk_cell HXX.out 2).trans rfl
        have c3 := (blk_cell HXX.out 3).trans rfl
        clear hT hA hXX hXB h2 h3 HZZ2
        go_wp2
        go_region_law (first
          | (go_simp; go_at_call 27; first
              | ((with_reducible refine (number_calls f2 _ hf2).mono ?_); rintro e W ⟨v35, rfl, hq, hbq⟩; have H35 := Aside0.mk hq; (try have H38 := Aside0.mk (Nd.keep (NK.below hbq) _ _ H38.out)); have HBA := Aside0.mk (below_then HBA.out HBA.out.size hbq); replace c2 := pw_cell_below hbq c2; replace c3 := pw_cell_below hbq c3; clear hq hbq)
              | ((with_reducible refine (number_calls f3 _ hf3).mono ?_); rintro e W ⟨v38, rfl, hq, hbq⟩; have H38 := Aside0.mk hq; (try have H35 := Aside0.mk (Nd.keep (NK.below hbq) _ _ H35.out)); have HBA := Aside0.mk (below_then HBA.out HBA.out.size hbq); replace c2 := pw_cell_below hbq c2; replace c3 := pw_cell_below hbq c3; clear hq hbq))
          | (go_simp; go_at_call 12; ((with_reducible refine (Cons_calls _ _ v35 v38 _ H35.out H38.out (by have := HZ2.out; simp only [Tr.size] at this ⊢; omega) (by have := HZ2.out; simp only [Tr.size] at this ⊢; omega)).mono ?_); rintro e W ⟨v6, rfl, hy, hbq⟩; have HY := Aside0.mk hy; have HBA := Aside0.mk (below_then HBA.out HBA.out.size hbq); clear hbq hy)))
        all_goals
          generalize Tr.cons (numT f2.toNat) (numT f3.toNat) = rest at HY HIT
          have HXW := Aside0.mk ((HBA.out.block _ (by simp)).trans HXX.out)
          have HBW := Aside0.mk (below_then HXB.out HXB.out.size HBA.out)
          clear c2 c3 HZ2 HBA HXX HXB hf2 hf3
      case' inr.inr.inr =>
        dsimp only at h0 hA h2a h2b h3 hT
        subst h0 h3
        have HA := Aside0.mk hA
        have HXX := Aside0.mk hXX
        have HXB := Aside0.mk hXB
        have hf2 : f2 ≤ 1000000 := by omega
        have hf3 : -f2 ≤ 1000000 := by omega
        have c2 := (blk_cell HXX.out 2).trans rfl
        clear hT hA hXX hXB
        go_wp2_with fail
        refine (number_calls f2 _ hf2).mono ?_
        rintro e W1 ⟨v44, rfl, hy, hb1⟩
        have c2 := pw_cell_below hb1 c2
        have HY1 := Aside0.mk hy
        have HB1 := Aside0.mk hb1
        clear hy hb1
        have HSZ : Aside0 ((numT f2.toNat).size ≤ 1000000000000 ∧ (numT (-f2).toNat).size ≤ 1000000000000) := ⟨by rw [numT_size', numT_size']; omega⟩
        go_wp2_with fail
        refine (Cons_calls .nil (numT f2.toNat) (.pointer none) v44 _ rfl HY1.out (by decide) HSZ.out.1).mono ?_
        rintro e W ⟨v6, rfl, hy, hb2⟩
        have HBA := Aside0.mk (below_then HB1.out HB1.out.size hb2)
        replace c2 := pw_cell_below hb2 c2
        by_cases hneg : f2 < 0
        case' pos =>
          have HIT : Aside0 (itemT ⟨5, f1, f2, 0, f4⟩ = .cons (numT (5 : Int).toNat) (.cons (numT f1.toNat) (.cons (.cons .nil .nil) (numT (-f2).toNat)))) := ⟨by
            unfold itemT bodyT
            dsimp only
            rw [if_neg (by decide), if_neg (by decide), if_pos rfl, if_pos hneg]⟩
          have t9 : decide (f2 < 0) = true := decide_eq_true hneg
          have HWR : Aside0 (IntKind.i64.wrap (-f2) = -f2) := ⟨by rw [i64_w]; unfold wrap64; omega⟩
          have HBA := Aside0.mk (below_drew HBA.out)
          clear hy hb2 HB1 HY1 hneg
          go_wp2
          go_region_law (first
            | (go_simp; go_at_call 27; first
                | ((with_reducible refine (number_calls 1 _ (by decide)).mono ?_); rintro e W ⟨v49, rfl, hq, hbq⟩; have H49 := Aside0.mk hq; (try have H53 := Aside0.mk (Nd.keep (NK.below hbq) _ _ H53.out)); have HBA := Aside0.mk (below_then HBA.out HBA.out.size hbq); replace c2 := pw_cell_below hbq c2; clear hq hbq)
                | ((with_reducible refine (number_calls (IntKind.i64.wrap (-f2)) _ (by rw [HWR.out]; exact hf3)).mono ?_); rintro e W ⟨v53, rfl, hq, hbq⟩; rw [HWR.out] at hq; have H53 := Aside0.mk hq; (try have H49 := Aside0.mk (Nd.keep (NK.below hbq) _ _ H49.out)); have HBA := Aside0.mk (below_then HBA.out HBA.out.size hbq); replace c2 := pw_cell_below hbq c2; clear hq hbq))
            | (go_simp; go_at_call 12; ((with_reducible refine (Cons_calls _ _ v49 v53 _ H49.out H53.out (by decide) HSZ.out.2).mono ?_); rintro e W ⟨v6, rfl, hy, hbq⟩; have HY : Aside0 (Nd W (.cons (.cons .nil .nil) (numT (-f2).toNat)) v6) := Aside0.mk hy; have HBA := Aside0.mk (below_then HBA.out HBA.out.size hbq); clear hbq hy)))
        case' neg =>
          have HIT : Aside0 (itemT ⟨5, f1, f2, 0, f4⟩ = .cons (numT (5 : Int).toNat) (.cons (numT f1.toNat) (.cons .nil (numT f2.toNat)))) := ⟨by
            unfold itemT bodyT
            dsimp only
            rw [if_neg (by decide), if_neg (by decide), if_pos rfl, if_neg hneg]⟩
          have t9 : decide (f2 < 0) = false := decide_eq_false hneg
          have HY := Aside0.mk hy
          clear hy hb2 HB1 HY1 hneg
        all_goals
          first | generalize Tr.cons (.cons .nil .nil) (numT (-f2).toNat) = rest at HY HIT | generalize Tr.cons .nil (numT f2.toNat) = rest at HY HIT
          have HXW := Aside0.mk ((HBA.out.block _ (by simp)).trans HXX.out)
          have HBW := Aside0.mk (below_then HXB.out HXB.out.size HBA.out)
          clear HSZ HBA HXX HXB hf2 hf3
      all_goals
        have HZR := Aside0.mk HZZ.out
        rw [HIT.out] at HZR
        have HNW := Aside0.mk (Nd.keep (NK.trans (NK.below HBW.out) (NK.drew W)) _ _ HN.out)
        have HYW := Aside0.mk (Nd.keep (NK.drew W) _ _ HY.out)
        have HBC := Aside0.mk (below_drew HBW.out)
        have c0 := (blk_cell HXW.out 0).trans rfl
        have c1 := (blk_cell HXW.out 1).trans rfl
        have hf1 : f1 ≤ 1000000 := by have := HA.out.2; omega
        go_wp2
        go_region_law (first
          | (go_simp; go_at_call 27; first
              | ((with_reducible refine (number_calls f1 _ hf1).mono ?_); rintro e wq ⟨v60, rfl, hq, hbq⟩; have H60 := Aside0.mk hq; (try have H57 := Aside0.mk (Nd.keep (NK.below hbq) _ _ H57.out)); have HYW := Aside0.mk (Nd.keep (NK.below hbq) _ _ HYW.out); have HNW := Aside0.mk (Nd.keep (NK.below hbq) _ _ HNW.out); have HBC := Aside0.mk (below_then HBC.out HBC.out.size hbq); replace c0 := pw_cell_below hbq c0; replace c1 := pw_cell_below hbq c1; clear hq hbq)
              | ((with_reducible refine (number_calls _ _ (by decide)).mono ?_); rintro e wq ⟨v57, rfl, hq, hbq⟩; have H57 := Aside0.mk hq; (try have H60 := Aside0.mk (Nd.keep (NK.below hbq) _ _ H60.out)); (try have H62 := Aside0.mk (Nd.keep (NK.below hbq) _ _ H62.out)); have HYW := Aside0.mk (Nd.keep (NK.below hbq) _ _ HYW.out); have HNW := Aside0.mk (Nd.keep (NK.below hbq) _ _ HNW.out); have HBC := Aside0.mk (below_then HBC.out HBC.out.size hbq); replace c0 := pw_cell_below hbq c0; replace c1 := pw_cell_below hbq c1; clear hq hbq))
          | (go_simp; go_at_call 12; first
              | ((with_reducible refine (Cons_calls _ _ v63 u3 _ H63.out HNW.out (by have := HZR.out; simp only [Tr.size] at this ⊢; omega) (by have := HZR.out; simp only [Tr.size] at this ⊢; omega)).mono ?_); rintro e wq ⟨v65, rfl, hq, hbq⟩; have H65 := Aside0.mk hq; have HBC := Aside0.mk (below_then HBC.out HBC.out.size hbq); replace c0 := pw_cell_below hbq c0; replace c1 := pw_cell_below hbq c1; clear hq hbq)
              | ((with_reducible refine (Cons_calls _ _ v57 v62 _ H57.out H62.out (by have := HZR.out; simp only [Tr.size] at this ⊢; omega) (by have := HZR.out; simp only [Tr.size] at this ⊢; omega)).mono ?_); rintro e wq ⟨v63, rfl, hq, hbq⟩; have H63 := Aside0.mk hq; have HNW := Aside0.mk (Nd.keep (NK.below hbq) _ _ HNW.out); have HBC := Aside0.mk (below_then HBC.out HBC.out.size hbq); replace c0 := pw_cell_below hbq c0; replace c1 := pw_cell_below hbq c1; clear hq hbq)
              | ((with_reducible refine (Cons_calls _ _ v60 v6 _ H60.out HYW.out (by have := HZR.out; simp only [Tr.size] at this ⊢; omega) (by have := HZR.out; simp only [Tr.size] at this ⊢; omega)).mono ?_); rintro e wq ⟨v62, rfl, hq, hbq⟩; have H62 := Aside0.mk hq; (try have H57 := Aside0.mk (Nd.keep (NK.below hbq) _ _ H57.out)); have HNW := Aside0.mk (Nd.keep (NK.below hbq) _ _ HNW.out); have HBC := Aside0.mk (below_then HBC.out HBC.out.size hbq); replace c0 := pw_cell_below hbq c0; replace c1 := pw_cell_below hbq c1; clear hq hbq)))
        all_goals
          go_wp2
          go_roundg k2
          case measure => omega
          case rel =>
            have hi := HI.out
            refine ⟨(m : Int) - 1, by go_num, ⟨by omega, by omega, by omega⟩, ⟨?_⟩, ⟨below_then HB.out HB.out.size HBC.out⟩⟩
            rw [show ((m : Int) - 1 + 1).toNat = m from by omega, HCD.out, HIT.out]
            exact H65.out
    · obtain rfl : i = -1 := by have := HI.out; omega
      have hn := HN.out
      rw [show ((-1 : Int) + 1).toNat = 0 from rfl, List.drop_zero] at hn
      have HN := Aside0.mk hn
      clear hn
      go_wp2
      go_ret
      exact ⟨_, rfl, HN.out, HB.out⟩
end Go.Proofs.YtpnmmpfidiegcaaGreatDoor.C
end
section
namespace Go.Proofs.YtpnmmpfidiegcaaGreatDoor.C
open Go.RowKit Go.Proofs.YtpnmmpfidiegcaaGreatDoorW.PrintWords Go.Proofs.YtpnmmpfidiegcaaGreatDoorW.PrintLast Go.Proofs.YtpnmmpfidiegcaaGreatDoorW.PrintMore
set_option linter.unusedVariables false
set_option linter.unusedSimpArgs false
def ReadsP (w : World) (v : Value) (p : List S52) : Prop := ∃ A c, v = .slice A p.length c ∧ p.length ≤ c ∧ Kd.C k52 w A p.length p ∧ ∀ ad, A = some ad → ∃ cells, w.heap[ad.block]? = some (.cells cells 52 (0, 0))
theorem ReadsP.below {w w' : World} {v : Value} {p : List S52} (h : ReadsP w v p) (hb : Below w.heap.size w w') : ReadsP w' v p := by
  obtain ⟨A, c, e, hc, hC, hT⟩ := h
  refine ⟨A, c, e, hc, Kd.C_below hC hb, fun ad ha => ?_⟩
  obtain ⟨cells, ht⟩ := hT ad ha
  exact ⟨cells, (hb.block _ (blk_lt ht)).trans ht⟩
theorem add_block (ad : Addr) (n : Nat) : (ad.add n).block = ad.block := by unfold Addr.add; split <;> rfl
theorem ReadsP.set {w : World} {v : Value} {p : List S52} (h : ReadsP w v p) {g : Nat} {cs : Array Value} (hg : w.heap[g]? = some (.cells cs 29 (0, 0))) (j : Nat) (u : Value) : ReadsP (w.setCell ⟨g, j, none⟩ u) v p := by
  obtain ⟨A, c, e, hc, hC, hT⟩ := h
  have hne : ∀ ad, A = some ad → ad.block ≠ g := fun ad ha e => by
    obtain ⟨cells, ht⟩ := hT ad ha
    rw [e, hg] at ht
    injection ht with ht
    injection ht with _ ht
    exact absurd ht (by decide)
  refine ⟨A, c, e, hc, ⟨hC.1, hC.2.1, fun hn => ?_⟩, fun ad ha => ?_⟩
  · obtain ⟨ad, ha, hr⟩ := hC.2.2 hn
    refine ⟨ad, ha, fun j' q hq => ?_⟩
    obtain ⟨c', h1, h2, h3⟩ := hr j' q hq
    refine ⟨c', h1, ?_, fun i u' hu => ?_⟩
    · obtain rfl := k52_open h2
      exact k52_mk _ q
    · rw [World.cell?_of_block (Below.heap_setCell w ⟨g, j, none⟩ u _ (by rw [add_block]; exact hne ad ha))]
      exact h3 i u' hu
  · obtain ⟨cells, ht⟩ := hT ad ha
    exact ⟨cells, blk_far ht (p := ⟨g, j, none⟩) (hne ad ha) u⟩
theorem ReadsP.of_R {w : World} {base : Nat} {v : Value} {p : List S52} (h : Kd.R k52 52 w base (fun _ => True) v p) : ReadsP w v p := by
  obtain ⟨A, c, rfl, hc, hC⟩ := Kd.R_reads h
  obtain ⟨inner, ho⟩ := Kd.R_own h
  refine ⟨A, c, rfl, hc, hC, fun ad ha => ?_⟩
  subst ha
  rcases ho.2 with ⟨e, _⟩ | ⟨g, cap, cur, e, _, hh, _⟩
  · cases e
  · injection e with e
    injection e with e
    subst e
    exact ⟨cur, hh⟩
theorem infoI : (Tryz.prog.info? 52).map (fun i => (i.zero, i.size, i.bytes)) = some (some (.agg #[.int .i64 0, .int .i64 0, .int .i64 0, .int .i64 0, .string ⟨#[]⟩]), 5, 48) := info52
theorem reps_app {α : Type} {R : α → List Value → Prop} {n : Nat} {ps qs : List α} {cs ds : List Value} (h : Reps R n ps cs) (k : Reps R n qs ds) : Reps R n (ps ++ qs) (cs ++ ds) := by
  refine ⟨by rw [List.length_append, List.length_append, h.1, k.1, Nat.add_mul], fun j p hj => ?_⟩
  rcases Nat.lt_or_ge j ps.length with hl | hl
  · rw [List.getElem?_append_left hl] at hj
    have h1 : j * n + n ≤ cs.length := by
      rw [h.1]
      have := Nat.mul_le_mul_right n (Nat.succ_le_of_lt hl)
      rwa [Nat.succ_mul] at this
    rw [List.drop_append_of_le_length (by omega), List.take_append_of_le_length (by rw [List.length_drop]; omega)]
    exact h.2 j p hj
  · obtain ⟨i, rfl⟩ : ∃ i, j = ps.length + i := ⟨j - ps.length, by omega⟩
    rw [List.getElem?_append_right (by omega), Nat.add_sub_cancel_left] at hj
    rw [Nat.add_mul, ← h.1, List.drop_length_add_append]
    exact k.2 i p hj
theorem reps_cells {w : World} {xs : List S52} {cs : List Value} (h : Reps (Kd.K k52 w) 5 xs cs) : ∀ u ∈ cs, u.oneCell' = true := by
  intro u hu
  obtain ⟨q, hq, rfl⟩ := List.mem_iff_getElem.1 hu
  have hql : q / 5 < xs.length := by
    rw [Nat.div_lt_iff_lt_mul (by omega), ← h.1]
    exact hq
  have hc := h.2 (q / 5) _ (List.getElem?_eq_getElem hql)
  refine Kd.K_one k52 hc _ ?_
  rw [List.mem_iff_getElem?]
  refine ⟨q % 5, ?_⟩
  rw [List.getElem?_take, if_pos (Nat.mod_lt _ (by omega)), List.getElem?_drop, Nat.mul_comm, Nat.div_add_mod, List.getElem?_eq_getElem hq]
theorem step_append_clip {ops : Array Oper} {o : Oper} {a : Act} {w : World} {K : Act → World → Prop} {Q : Exit → Act → World → Prop} {E : Prop} (hgd : o.guard = none) (s x : Operand)
    (hop : o.op = Op.call { callee := Callee.builtin Builtin.append, args := #[s, x], argTypes := #[29, 29] })
    (g : Nat) (xs ys : List S52) (A : Option Addr) (c : Nat) (hs : a.eval s = .slice (some ⟨g, 0, none⟩) xs.length xs.length) (hx : a.eval x = .slice A ys.length c)
    (hX : Kd.C k52 w (some ⟨g, 0, none⟩) xs.length xs) (hT : ∃ cells, w.heap[g]? = some (.cells cells 52 (0, 0))) (hY : Kd.C k52 w A ys.length ys) (hl : xs.length + ys.length ≤ 1000000)
    (h : ∀ A' c' w', ReadsP w' (.slice A' (xs.length + ys.length) c') (xs ++ ys) → Below w.heap.size w w' → K (a.put o.dst (.slice A' (xs.length + ys.length) c')) w') :
    if Region.wanted o (yielded ops a.tmps) = true then Oper.wp Tryz.prog o a w K Q else E := by
  have hw : Region.wanted o (yielded ops a.tmps) = true := by simp [Region.wanted, hgd]
  obtain ⟨i0, hi, hz0, hz1, hz2⟩ := info_parts infoI
  obtain ⟨olds, hor, hoc⟩ := ReadsRow.inner_ hX
  cases hys : ys with
  | nil =>
    subst hys
    rw [if_pos hw]
    have hrun : (Builtin.append_ #[29, 29] o.type #[.slice (some ⟨g, 0, none⟩) xs.length xs.length, .slice A 0 c]).run Tryz.prog w = .ok (.slice (some ⟨g, 0, none⟩) xs.length xs.length) w := by
      have hl0 : ∀ ad : Addr, (loadCells ad 0).run Tryz.prog w = .ok #[] w := fun ad => by simp [loadCells, loadCellsFrom]
      cases A <;> simp [Builtin.append_, run_underlying Tryz.underlying29, sizeOf, typeInfo, hi, Builtin.lenOf, Builtin.firstCells, storeCells, hl0]
    have hk := h (some ⟨g, 0, none⟩) xs.length w ⟨some ⟨g, 0, none⟩, xs.length, by simp, by simp, by simpa using hX, fun ad ha => by cases ha; exact hT⟩ (Below.refl _ _)
    unfold Oper.wp
    simp [execOp, hop, resolve, invoke, builtin, hs, hx, hrun, Result.andThen]
    have hk2 : K (a.put o.dst (.slice (some ⟨g, 0, none⟩) xs.length xs.length)) w := by simpa using hk
    exact hk2
  | cons y ys' =>
    have hm : 0 < ys.length := by rw [hys]; simp
    obtain ⟨ad, rfl, _⟩ := hY.2.2 hm
    obtain ⟨news, hnr, hnc⟩ := ReadsRow.inner_ hY
    refine step_append_grows hgd s x _ hop 52 i0 _ 5 48 Tryz.underlying29 hi hz0 hz1 hz2 rfl (by omega) (some ⟨g, 0, none⟩) xs.length xs.length olds hs (fun e => by cases e) hor.1 (fun b e => by cases e; exact hoc) ad ys.length c news hx hnr.1 hnc (reps_cells hnr) (by omega) (by unfold maxLen; omega) (by omega) ?_
    intro v' w' hown hgr
    obtain ⟨A', c', rfl⟩ := own_slice hown
    have hb : Below w.heap.size w w' := (Below.refl _ _).grown hgr (Nat.le_refl _) (by intro k hk; cases hk)
    refine h A' c' w' ⟨A', c', by simp, by rw [List.length_append]; exact own_le hown, ?_, fun ad ha => ?_⟩ hb
    rotate_left
    · subst ha
      rcases hown.2 with ⟨e, _⟩ | ⟨g', cap, cur, e, _, hh, _⟩
      · cases e
      · injection e with e
        injection e with e
        subst e
        exact ⟨cur, hh⟩
    have hr : Reps (Kd.K k52 w') 5 (xs ++ ys) (olds ++ news) := (reps_app hor hnr).imp_ fun p c hp => Kd.K_below _ hb hp
    obtain ⟨A2, c2, e, hrow⟩ := own_reads_row hown hr (by simp)
    injection e with e1 _ e2
    subst e1
    rw [List.length_append]
    exact hrow
theorem types_ne : ∀ q, q ∈ 52 :: (k52).E → q ≠ 29 := by
  intro q hq
  simp [k52, Kd.iso, Kd.pair, Kd.int, Kd.string, Kd.scalar] at hq
  subst hq
  decide
theorem R_put {w : World} {base : Nat} {ok : Nat → Prop} {v : Value} {p : List S52} (h : Kd.R k52 52 w base ok v p) {g : Nat} {cs : Array Value} (hg : w.heap[g]? = some (.cells cs 29 (0, 0))) (j : Nat) (u : Value) : Kd.R k52 52 (w.setCell ⟨g, j, none⟩ u) base ok v p :=
  Kd.R_mono (Kd.R_step (Kd.R_types h hg types_ne) (fun k hk _ => Below.heap_setCell w ⟨g, j, none⟩ u k hk.2)) (fun _ hk => hk.1)
def PRow (w : World) (base h : Nat) (ps : List (List S52)) (i : Nat) : Prop :=
  ∃ (xs : List Value) (f : Nat → Nat), base ≤ h ∧ w.heap[h]? = some (.cells xs.toArray 29 (0, 0)) ∧ xs.length = ps.length ∧ (∀ j (hj : j < ps.length), ∃ u, xs[j]? = some u ∧ ReadsP w u ps[j]) ∧ ∀ j (hj : j < ps.length), j < i → ∃ u, xs[j]? = some u ∧ Kd.R k52 52 w base (fun k => f k = j) u ps[j]
theorem PRow.below {w w' : World} {base h i : Nat} {ps : List (List S52)} (k : PRow w base h ps i) (hb : Below w.heap.size w w') : PRow w' base h ps i := by
  obtain ⟨xs, f, h1, h2, h3, h4, h5⟩ := k
  exact ⟨xs, f, h1, (hb.block _ (blk_lt h2)).trans h2, h3, fun j hj => (h4 j hj).imp fun u hu => ⟨hu.1, hu.2.below hb⟩, fun j hj hi => (h5 j hj hi).imp fun u hu => ⟨hu.1, Kd.R_below hu.2 hb⟩⟩
theorem PRow.put {w : World} {base h i : Nat} {ps : List (List S52)} (k : PRow w base h ps i) (j : Nat) (hj : j < ps.length) {u : Value} {p : List S52} (hu : ReadsP w u p) : PRow (w.setCell ⟨h, j, none⟩ u) base h (ps.set j p) (min i j) := by
  obtain ⟨xs, f, h1, h2, h3, h4, h5⟩ := k
  refine ⟨xs.set j u, f, h1, (blk_set h2 j u).trans (by simp), by simp [h3], fun a ha => ?_, fun a ha hi => ?_⟩
  · rw [List.length_set] at ha
    by_cases e : a = j
    · subst e
      exact ⟨u, by rw [List.getElem?_set_self (by omega)], by rw [List.getElem_set_self]; exact hu.set h2 _ _⟩
    · obtain ⟨v, hv, hr⟩ := h4 a ha
      exact ⟨v, by rw [List.getElem?_set_ne (by omega)]; exact hv, by rw [List.getElem_set_ne (by omega)]; exact hr.set h2 _ _⟩
  · rw [List.length_set] at ha
    obtain ⟨v, hv, hr⟩ := h5 a ha (by omega)
    exact ⟨v, by rw [List.getElem?_set_ne (by omega)]; exact hv, by rw [List.getElem_set_ne (by omega)]; exact R_put hr h2 _ _⟩
theorem PRow.own {w0 w : World} {base h i : Nat} {ps : List (List S52)} (k0 : PRow w0 base h ps i) (hb : Below w0.heap.size w0 w) (hbase : base ≤ w0.heap.size) (hi : i < ps.length) {u : Value} {p : List S52} (hu : Kd.R k52 52 w w0.heap.size (fun _ => True) u p) : PRow (w.setCell ⟨h, i, none⟩ u) base h (ps.set i p) (i + 1) := by
  obtain ⟨xs, f, h1, h2, h3, h4, h5⟩ := k0
  have g2 := (hb.block _ (blk_lt h2)).trans h2
  refine ⟨xs.set i u, fun k => if k < w0.heap.size then f k else i, h1, (blk_set g2 i u).trans (by simp), by simp [h3], fun a ha => ?_, fun a ha hi2 => ?_⟩
  · rw [List.length_set] at ha
    by_cases e : a = i
    · subst e
      exact ⟨u, by rw [List.getElem?_set_self (by omega)], by rw [List.getElem_set_self]; exact (ReadsP.of_R hu).set g2 _ _⟩
    · obtain ⟨v, hv, hr⟩ := h4 a ha
      exact ⟨v, by rw [List.getElem?_set_ne (by omega)]; exact hv, by rw [List.getElem_set_ne (by omega)]; exact (hr.below hb).set g2 _ _⟩
  · rw [List.length_set] at ha
    by_cases e : a = i
    · subst e
      refine ⟨u, by rw [List.getElem?_set_self (by omega)], ?_⟩
      rw [List.getElem_set_self]
      exact R_put (Kd.R_mono (Kd.R_lower (Kd.R_bound hu) hbase) (fun k hk => if_neg (by have := hk.2.1; omega))) g2 _ _
    · obtain ⟨v, hv, hr⟩ := h5 a ha (by omega)
      refine ⟨v, by rw [List.getElem?_set_ne (by omega)]; exact hv, ?_⟩
      rw [List.getElem_set_ne (by omega)]
      exact R_put (Kd.R_below (Kd.R_mono (Kd.R_bound hr) (fun k hk => (if_pos hk.2.2.1).trans hk.1)) hb) g2 _ _
theorem PRow.reads {w : World} {base h i : Nat} {ps : List (List S52)} (k : PRow w base h ps i) (hl : ps.length ≤ 1000000) : Kd.C (Kd.slice 52 k52) w (some ⟨h, 0, none⟩) ps.length ps := by
  obtain ⟨xs, f, h1, h2, h3, h4, h5⟩ := k
  refine ⟨rfl, by omega, fun _ => ⟨_, rfl, fun j p hp => ?_⟩⟩
  have hj := (List.getElem?_eq_some_iff.1 hp).1
  obtain ⟨u, hu, A, c, rfl, hc, hC, _⟩ := h4 j hj
  have ep := (List.getElem?_eq_some_iff.1 hp).2
  rw [ep] at hc hC hu
  refine ⟨[.slice A p.length c], rfl, ⟨A, c, rfl, hc, hC⟩, fun i u hu2 => ?_⟩
  match i, hu2 with
  | 0, hu2 =>
    simp at hu2
    subst hu2
    rw [add_plain, blk_cell h2]
    simpa [Kd.slice] using hu
theorem PRow.owned {w : World} {base h : Nat} {ps : List (List S52)} (k : PRow w base h ps ps.length) (hl : ps.length ≤ 1000000) : Kd.S (Kd.slice 52 k52) 29 w base (fun _ => True) (.slice (some ⟨h, 0, none⟩) ps.length ps.length) ps := by
  obtain ⟨xs, f, h1, h2, h3, h4, h5⟩ := k
  refine ⟨f, fun _ _ => trivial, xs, ⟨by simp [Kd.tag, Kd.slice, h3], .inr ⟨h, ps.length, xs.toArray, by simp, h1, h2, by simp, by unfold maxLen; omega, by simp [Kd.tag, Kd.slice, h3], by simp [Kd.tag, Kd.slice, ← h3]⟩⟩, by simp [Kd.tag, Kd.slice, h3], fun j p hp => ?_⟩
  obtain ⟨hp1, hp2⟩ : ps[j]? = some p.1 ∧ j = p.2 := by
    rw [List.getElem?_zipIdx] at hp
    obtain ⟨q, hq, e⟩ := Option.map_eq_some_iff.1 hp
    subst e
    exact ⟨hq, by simp⟩
  have hj := (List.getElem?_eq_some_iff.1 hp1).1
  have ep := (List.getElem?_eq_some_iff.1 hp1).2
  obtain ⟨u, hu, hr⟩ := h5 j hj hj
  rw [ep] at hr
  have hx := (List.getElem?_eq_some_iff.1 hu)
  have hcs : (xs.drop (j * 1)).take 1 = [u] := by
    rw [Nat.mul_one, List.drop_eq_getElem_cons hx.1, hx.2]; rfl
  show Kd.M (Kd.slice 52 k52) w base _ p.1 ((xs.drop (j * 1)).take 1)
  rw [hcs]
  refine ⟨u, rfl, Kd.R_mono (Kd.R_types hr h2 types_ne) fun b hb => ⟨⟨trivial, fun e => ?_⟩, hp2 ▸ hb.1⟩⟩
  simp [Value.ownBlock] at e
  exact hb.2 e
end Go.Proofs.YtpnmmpfidiegcaaGreatDoor.C
end
section
namespace Go.Proofs.YtpnmmpfidiegcaaGreatDoor.C
open Go.RowKit Go.Proofs.YtpnmmpfidiegcaaGreatDoorW.PrintWords Go.Proofs.YtpnmmpfidiegcaaGreatDoorW.PrintLast Go.Proofs.YtpnmmpfidiegcaaGreatDoorW.PrintMore
set_option linter.unusedVariables false
set_option linter.unusedSimpArgs false
def integerV (l : List UInt8) : Int × Bool :=
  match Lib.atoiAll l with
  | .ok v => (v, Lib.itoa v == l)
  | .range => (Lib.atoiSat l, false)
  | _ => (0, false)
def code_integer.f (a0 : ByteArray) : Option (Int × Bool) := if a0.size ≤ 281474976710656 then some (integerV a0.data.toList) else none
theorem atoiAll_range {l : List UInt8} {v : Int} (h : Lib.atoiAll l = .ok v) : -9223372036854775808 ≤ v ∧ v ≤ 9223372036854775807 := by
  unfold Lib.atoiAll at h
  split at h
  · cases h
  · dsimp only at h
    split at h
    · cases h
    · cases h
    · split at h
      · cases h
      · split at h
        · cases h
        · injection h with h
          subst h
          split <;> omega
theorem atoi_ok (s : ByteArray) (hmax : s.size ≤ 9223372036854775806) (v : Int) (h : Lib.atoiAll s.data.toList = .ok v) (w : World) :
    Calls Tryz.prog 68 #[.string s] w fun e w' => e = .returned (.tuple #[.int .i64 v, .nilIface]) ∧ Below w.heap.size w w' := by
  refine (Tryz.strconv_Atoi_ok s hmax v h w).mono ?_
  rintro e w1 ⟨rfl, hw⟩
  refine ⟨rfl, ?_⟩
  rcases hw with rfl | ⟨t, rfl⟩
  · exact Below.refl _ _
  · exact Lib.bytesWorld_below _ _ _
set_option maxHeartbeats 1000000 in
set_option maxRecDepth 100000 in
theorem code_integer.calls (a0 : ByteArray) (r1 : Int) (r2 : Bool) (w : World) (hL : LaidW w) (h : code_integer.f a0 = some (r1, r2)) :
    Calls Tryz.prog 52 #[.string a0] w fun e w' => e = .returned (.tuple #[.int .i64 r1, .bool r2]) ∧ Below w.heap.size w w' := by
  unfold code_integer.f at h
  split at h
  case isFalse => cases h
  case isTrue hs =>
  have h := Option.some.inj h
  unfold integerV at h
  cases hA : Lib.atoiAll a0.data.toList with
  | ok v =>
    rw [hA] at h
    simp only [Prod.mk.injEq] at h
    obtain ⟨rfl, rfl⟩ := h
    have HA := Aside0.mk hA
    have hlo : Aside0 (-9223372036854775808 ≤ v ∧ v ≤ 9223372036854775807) := ⟨atoiAll_range hA⟩
    clear hA
    have HL := Aside0.mk hL
    clear hL
    have hfin : (Lib.itoa v == a0.toList) = (Lib.itoa v == a0.data.toList) := by rw [ByteArray.toList_eq]
    have HF := Aside0.mk hfin
    clear hfin
    have hI : ∀ W : World, LaidW W → Calls Tryz.prog 69 #[.int .i64 v] W fun e w' => e = .returned (.string ⟨(Lib.itoa v).toArray⟩) ∧ Below W.heap.size W w' := fun W hW =>
      strconv_Itoa.calls v _ W hW (by unfold strconv_Itoa.f; rw [if_pos hlo.out])
    have HI := Aside0.mk hI
    clear hI
    go_enter Tryz.func52, Tryz.ntmps52
    go_wp2_with (go_at_call 68; refine (atoi_ok a0 (by omega) v HA.out _).mono ?_; rintro e w1 ⟨rfl, hb⟩; have HB := Aside0.mk hb; clear hb)
    refine (HI.out _ (LaidW.below HL.out HB.out)).mono ?_
    rintro e w2 ⟨rfl, hb2⟩
    have HB2 := Aside0.mk hb2
    clear hb2
    go_wp2
    go_ret2
    exact ⟨by show Ending.returned (.tuple #[.int .i64 v, .bool (Lib.itoa v == a0.toList)]) = _; rw [HF.out], below_step HB.out HB2.out⟩
  | range =>
    rw [hA] at h
    simp only [Prod.mk.injEq] at h
    obtain ⟨rfl, rfl⟩ := h
    obtain ⟨tp, p, hv⟩ := hL.rg
    have HV := Aside0.mk hv
    have HA := Aside0.mk hA
    clear hv hA
    go_enter Tryz.func52, Tryz.ntmps52
    go_wp2_with (go_at_call 68; refine (Tryz.strconv_Atoi_range a0 hs HA.out _ _ HV.out (Or.inr ⟨tp, p, rfl⟩)).mono ?_; rintro e w1 ⟨N, rfl, hN, hc, hb⟩)
    go_ret2
    exact ⟨rfl, ‹Below _ _ _›⟩
  | _ =>
    rw [hA] at h
    simp only [Prod.mk.injEq] at h
    obtain ⟨rfl, rfl⟩ := h
    obtain ⟨tp, p, hv⟩ := hL.sy
    have HV := Aside0.mk hv
    have HA := Aside0.mk hA
    clear hv hA
    go_enter Tryz.func52, Tryz.ntmps52
    go_wp2_with (go_at_call 68; refine (Tryz.strconv_Atoi_syntax a0 hs (fun v e => by rw [HA.out] at e; cases e) (fun e => by rw [HA.out] at e; cases e) _ _ HV.out (Or.inr ⟨tp, p, rfl⟩)).mono ?_; rintro e w1 ⟨N, rfl, hN, hc, hb⟩)
    go_ret2
    exact ⟨rfl, ‹Below _ _ _›⟩
end Go.Proofs.YtpnmmpfidiegcaaGreatDoor.C
end
section
namespace Go.Proofs.YtpnmmpfidiegcaaGreatDoor.C
open Go.RowKit Go.Proofs.YtpnmmpfidiegcaaGreatDoorW.PrintWords Go.Proofs.YtpnmmpfidiegcaaGreatDoorW.PrintLast Go.Proofs.YtpnmmpfidiegcaaGreatDoorW.PrintMore
attribute [local go_sem] max2_int min2_int max_two min_two max_three min_three max_four min_four
set_option linter.unusedVariables false
set_option linter.unusedSimpArgs false
def code_names.f  : Option (List ByteArray) := some (([(⟨#[115, 101, 116]⟩ : ByteArray), (⟨#[109, 111, 118, 101]⟩ : ByteArray), (⟨#[99, 111, 110, 115]⟩ : ByteArray), (⟨#[104, 101, 97, 100]⟩ : ByteArray), (⟨#[116, 97, 105, 108]⟩ : ByteArray), (⟨#[106, 117, 109, 112]⟩ : ByteArray)] : List ByteArray))
set_option maxHeartbeats 8000000 in
set_option maxRecDepth 100000 in
theorem code_names.calls  (r : List ByteArray) (w : World) (h : code_names.f  = some r) :
  Calls Tryz.prog 51 #[] w fun e w' => ∃ v0_ : Value, e = .returned (v0_) ∧ Kd.R Kd.string 9 w' w.heap.size (fun _ => True) v0_ r ∧ Below w.heap.size w w' := by
 have HB := Aside0.mk (Below.refl w.heap.size w)
 have H : (some (([(⟨#[115, 101, 116]⟩ : ByteArray), (⟨#[109, 111, 118, 101]⟩ : ByteArray), (⟨#[99, 111, 110, 115]⟩ : ByteArray), (⟨#[104, 101, 97, 100]⟩ : ByteArray), (⟨#[116, 97, 105, 108]⟩ : ByteArray), (⟨#[106, 117, 109, 112]⟩ : ByteArray)] : List ByteArray))) = some r := h
 clear h
 obtain ⟨y1, hy1⟩ : ∃ y_ : List ByteArray, y_ = (([(⟨#[115, 101, 116]⟩ : ByteArray), (⟨#[109, 111, 118, 101]⟩ : ByteArray), (⟨#[99, 111, 110, 115]⟩ : ByteArray), (⟨#[104, 101, 97, 100]⟩ : ByteArray), (⟨#[116, 97, 105, 108]⟩ : ByteArray), (⟨#[106, 117, 109, 112]⟩ : ByteArray)] : List ByteArray)) := ⟨_, rfl⟩
 replace H : (some y1) = some r := by first | (rw [hy1]; with_reducible exact H) | (have H2_ := (Option.bind_some _ _).symm.trans H; rw [hy1]; with_reducible exact H2_) | (have H2_ := (Option.bind_some _ _).symm.trans H; with_reducible exact H2_) | with_reducible exact H | (rw [hy1]; exact H) | exact H
 have Ny1 := Aside0.mk hy1
 clear hy1
 obtain rfl := Option.some.inj H
 go_enter Tryz.func51, Tryz.ntmps51
 go_wp2_with (first | ((with_reducible refine gate_dst (N := 1) rfl ?_); refine Kd.R_lit Kd.string _ 9 ?hg (N := 1) ?hd (xs := ([(⟨#[115, 101, 116]⟩ : ByteArray), (⟨#[109, 111, 118, 101]⟩ : ByteArray), (⟨#[99, 111, 110, 115]⟩ : ByteArray), (⟨#[104, 101, 97, 100]⟩ : ByteArray), (⟨#[116, 97, 105, 108]⟩ : ByteArray), (⟨#[106, 117, 109, 112]⟩ : ByteArray)] : List ByteArray)) (inner := [.string (⟨#[115, 101, 116]⟩ : ByteArray), .string (⟨#[109, 111, 118, 101]⟩ : ByteArray), .string (⟨#[99, 111, 110, 115]⟩ : ByteArray), .string (⟨#[104, 101, 97, 100]⟩ : ByteArray), .string (⟨#[116, 97, 105, 108]⟩ : ByteArray), .string (⟨#[106, 117, 109, 112]⟩ : ByteArray)]) (ok := fun _ => True) (okp := fun _ => True) ?hr ?hp (fun _ hk => hk) trivial (Below.refl _ _) (Nat.le_refl _) (by simp) ?_; (case hd => rfl); (case hg => rfl); (case hr => first | (go_simp; done) | (go_simp; rfl)); (case hp => exact (Reps.one (show Kd.M Kd.string _ _ _ (⟨#[115, 101, 116]⟩ : ByteArray) [.string (⟨#[115, 101, 116]⟩ : ByteArray)] from rfl) (Reps.one (show Kd.M Kd.string _ _ _ (⟨#[109, 111, 118, 101]⟩ : ByteArray) [.string (⟨#[109, 111, 118, 101]⟩ : ByteArray)] from rfl) (Reps.one (show Kd.M Kd.string _ _ _ (⟨#[99, 111, 110, 115]⟩ : ByteArray) [.string (⟨#[99, 111, 110, 115]⟩ : ByteArray)] from rfl) (Reps.one (show Kd.M Kd.string _ _ _ (⟨#[104, 101, 97, 100]⟩ : ByteArray) [.string (⟨#[104, 101, 97, 100]⟩ : ByteArray)] from rfl) (Reps.one (show Kd.M Kd.string _ _ _ (⟨#[116, 97, 105, 108]⟩ : ByteArray) [.string (⟨#[116, 97, 105, 108]⟩ : ByteArray)] from rfl) (Reps.one (show Kd.M Kd.string _ _ _ (⟨#[106, 117, 109, 112]⟩ : ByteArray) [.string (⟨#[106, 117, 109, 112]⟩ : ByteArray)] from rfl) (Reps.none _ _)))))))); intro v2 w1 ho2 hb hg_ hnew_; clear hg_ hnew_; (first | rw [← Ny1.out] at ho2 | (simp only [Int.reduceToNat] at ho2; rw [← Ny1.out] at ho2)); have n0_ := Aside0.mk (Kd.R_lower ho2 (below_size (by repeat (first | (with_reducible first | exact HB.out | apply below_alloc | apply pw_below_drewN | apply below_drew1) | exact HB.out)))); have n1_ := Aside0.mk (below_step (by repeat (first | (with_reducible first | exact HB.out | apply below_alloc | apply pw_below_drewN | apply below_drew1) | exact HB.out)) hb); clear HB; have HO3 := n0_; have HB := n1_; clear n0_ n1_; clear hb ho2))
 go_ret
 exact ⟨_, by first | rfl | (simp [errW_none, errW_some] <;> rfl) | (simp [*, errW_none, errW_some] <;> rfl), by (with_reducible repeat (first | apply Kd.R_alloc | apply Kd.R_drewN | apply Kd.R_drew)); exact HO3.out, by repeat (first | (with_reducible first | exact HB.out | apply below_alloc | apply pw_below_drewN | apply below_drew1) | exact HB.out)⟩
end Go.Proofs.YtpnmmpfidiegcaaGreatDoor.C
end
section
namespace Go.Proofs.YtpnmmpfidiegcaaGreatDoor.C
open Go.RowKit Go.Proofs.YtpnmmpfidiegcaaGreatDoorW.PrintWords Go.Proofs.YtpnmmpfidiegcaaGreatDoorW.PrintLast Go.Proofs.YtpnmmpfidiegcaaGreatDoorW.PrintMore
set_option linter.unusedVariables false
set_option linter.unusedSimpArgs false
def eachInt : List ByteArray → List Int → Option (Option (List Int))
  | [], p => some (some p)
  | s :: l, p => (code_integer.f s).bind fun r => if r.2 = true then (if p.length < 17592186040000 then eachInt l (p ++ [r.1]) else none) else some none
theorem drop_row (l : List ByteArray) (i : Nat) (h : i < l.length) : l.drop i = rdOf ByteArray.empty l (i : Int) :: l.drop (i + 1) := by
  rw [List.drop_eq_getElem_cons h]
  simp [rdOf, h]
set_option maxHeartbeats 2000000 in
set_option maxRecDepth 100000 in
theorem eachInt_calls (A0 : Option Addr) (c0 : Nat) (l : List ByteArray) (q : Option (List Int)) (w : World) (hL : LaidW w) (hr0 : Kd.C Kd.string w A0 l.length l) (hc0 : l.length ≤ c0) (h : eachInt l [] = some q) :
    Calls Tryz.prog 53 #[.slice A0 l.length c0, .func (.func 52) #[] #[]] w fun e w' => ∃ v0_ : Value, e = .returned (.tuple #[v0_, .bool q.isSome]) ∧ Kd.R (Kd.int .i64) 3 w' w.heap.size (fun _ => True) v0_ (q.getD []) ∧ Below w.heap.size w w' := by
  have HLW := Aside0.mk hL
  have HR0 := Aside0.mk hr0
  have hlm : l.length ≤ 9223372036854775807 := hr0.2.1
  have HQ : Aside0 (eachInt (l.drop 0) [] = some q) := ⟨h⟩
  clear hr0 hL h hc0
  go_enter Tryz.func53, Tryz.ntmps53
  go_wp2
  go_loopg [6, 13] l.length (fun kq v6 v13 wr => ∃ (i : Nat) (p : List Int), v13 = .int .i64 i ∧ Aside0 (i ≤ l.length ∧ kq + i = l.length) ∧ Aside0 (eachInt (l.drop i) p = some q) ∧ Aside0 (Kd.R (Kd.int .i64) 3 wr w.heap.size (fun _ => True) v6 p) ∧ Aside0 (Below w.heap.size w wr))
  case atStart => exact ⟨0, [], rfl, ⟨Nat.zero_le _, rfl⟩, HQ, ⟨Kd.R_nil _ _ _ _ _⟩, ⟨Below.refl _ _⟩⟩
  case round =>
    clear HQ
    obtain ⟨i, p, rfl, HI, HA, HR, HB⟩ := hrel
    have H := HA.out
    clear HA
    by_cases hlt : (i : Int) < (l.length : Int)
    · rw [drop_row l i (by omega), eachInt] at H
      obtain ⟨⟨n, ok⟩, hn, H⟩ := Option.bind_eq_some_iff.1 H
      dsimp only at H
      have HN := Aside0.mk H
      have HV := Aside0.mk hn
      clear H hn
      cases gk with
      | zero => exact absurd HI.out.2 (by omega)
      | succ k2 =>
      obtain ⟨ad, eA, hx0⟩ := Kd.at_string HR0.out (i : Int) (by omega) hlt
      subst eA
      rw [Int.toNat_natCast] at hx0
      replace hx0 := (HB.out.cell (World.block_lt_of_cell? w _ hx0)).trans hx0
      generalize rdOf ByteArray.empty l (i : Int) = s at *
      go_wp2_with fail
      refine (code_integer.calls s n ok _ (HLW.out.below HB.out) HV.out).mono ?_
      rintro e w2 ⟨rfl, hb2⟩
      have HR2 := Aside0.mk (Kd.R_below HR.out hb2)
      have HB2 := Aside0.mk (below_step HB.out hb2)
      clear hb2 HR HB hx0
      cases ok with
      | false =>
        obtain rfl : q = none := by have := HN.out; simpa using this.symm
        clear HN
        go_wp2
        go_ret2
        exact ⟨_, rfl, Kd.R_nil _ _ _ _ _, HB2.out⟩
      | true =>
        by_cases hpl : p.length < 17592186040000
        · have HN3 : Aside0 (eachInt (l.drop (i + 1)) (p ++ [n]) = some q) := ⟨by have := HN.out; simpa [hpl] using this⟩
          have HPL := Aside0.mk hpl
          clear HN hpl
          go_wp2_with (at_builtin; refine Kd.R_append (Kd.int .i64) (w0 := w) w.heap.size rfl _ _ 100 3 (.int .i64 0) 8 rfl Tryz.underlying100 info3 rfl (by decide) (by omega) _ p n [.int .i64 n] (fun _ => True) (fun _ => False) rfl rfl rfl (fun _ hk => hk.elim) ?aF ?aO ?aB ?aS ?aL ?_)
          case aF => exact fun _ _ => trivial
          case aO => exact HR2.out
          case aB => exact HB2.out
          case aS => exact HB2.out.size
          case aL => have := HPL.out; omega
          intro v6 w6 ho6 hb6 hg6 hat6
          have HO6 := Aside0.mk ho6
          have HB6 := Aside0.mk hb6
          clear ho6 hb6 hg6 hat6 HPL HR2 HB2
          go_wp2
          go_roundg k2
          case measure => omega
          case rel => exact ⟨i + 1, _, by go_num, ⟨by have := HI.out; omega⟩, HN3, HO6, HB6⟩
        · exact absurd HN.out (by simp [hpl])
    · have hd : l.drop i = [] := List.drop_eq_nil_of_le (by omega)
      rw [hd, eachInt] at H
      obtain rfl := Option.some.inj H
      clear H
      have t1 : decide ((i : Int) < (l.length : Int)) = false := decide_eq_false hlt
      have t2 : decide (i < l.length) = false := decide_eq_false (by omega)
      clear hlt hd
      go_wp2
      go_ret2
      exact ⟨_, rfl, HR.out, HB.out⟩
end Go.Proofs.YtpnmmpfidiegcaaGreatDoor.C
end
