/- Texts of this claim, together: what the functions return, and what they say in plain words. -/
import Derived.Test.YtpnmmpfidiegcaaGreatDoorUS
import Derived.Test.YtpnmmpfidiegcaaGreatDoorUV
import Derived.Test.YtpnmmpfidiegcaaGreatDoorUM
import Derived.Test.YtpnmmpfidiegcaaGreatDoorUN
import Derived.Test.YtpnmmpfidiegcaaGreatDoorUR
import Derived.Test.YtpnmmpfidiegcaaGreatDoorUB
section
namespace Go.Proofs.YtpnmmpfidiegcaaGreatDoor.Plain
open Go.Proofs.YtpnmmpfidiegcaaGreatDoor.C
open Go.RowKit Go.Proofs.YtpnmmpfidiegcaaGreatDoorW.PrintWords Go.Proofs.YtpnmmpfidiegcaaGreatDoorW.PrintLast Go.Proofs.YtpnmmpfidiegcaaGreatDoorW.PrintMore
set_option linter.unusedVariables false
set_option linter.unusedSimpArgs false
theorem codeL_bound {p : List Ins} (h : OKP p) (n s : Nat) (h1 : p.length ≤ n) (h2 : sizes p ≤ s) : (codeL p).length ≤ n * (301 + 2 * n) + s + 1 := by
  have h3 := codeT_bound h
  rw [codeT_size h] at h3
  have h4 : p.length * (301 + 2 * p.length) ≤ n * (301 + 2 * n) := Nat.mul_le_mul h1 (by omega)
  omega
theorem after_exact (p : List Ins) : ∀ (k : Nat) (a : Int) (r : Rg), (after p k a r).2.2.2 = true → (after p k a r).1 = (p.length : Int) → after p (after p k a r).2.2.1 a r = after p k a r
  | 0, _, _, _, _ => rfl
  | k + 1, a, r, h1, h2 => by
    rw [after] at h1 h2 ⊢
    by_cases he : a = (p.length : Int)
    · rw [if_pos he]; rfl
    · rw [if_neg he] at h1 h2 ⊢
      cases hx : exec (p.getD a.toNat ⟨0, 0, 0, 0, ⟨#[]⟩⟩) r with
      | none => rw [hx] at h1; cases h1
      | some q =>
        rw [hx] at h1 h2
        have ih := after_exact p k (a + q.1) q.2 h1 h2
        show after p ((after p k (a + q.1) q.2).2.2.1 + 1) a r = _
        rw [after, if_neg he, hx]
        simp only
        rw [ih]
theorem runM_exact {p : List Ins} {x t : Tr} {k n : Nat} (h : runM p x k = (t, n, 0)) : runM p x n = (t, n, 0) := by
  have hh := h
  unfold runM at h
  dsimp only at h
  split at h
  · rename_i h1
    split at h
    · rename_i h2
      have hn : (after p k 0 (init x)).2.2.1 = n := congrArg (fun q => q.2.1) h
      have := after_exact p k 0 (init x) h1 h2
      rw [hn] at this
      unfold runM at hh ⊢
      rw [this]
      exact hh
    · cases h
  · cases h
theorem knowHead_sizes : sizes knowHead ≤ 100 := by decide +kernel
theorem bearQ_sizes (w : Nat) (p : List Ins) : sizes (bearQ w p) = sizes p := by
  unfold bearQ
  rw [sizes_append, sizes_append]
  have h1 : sizes ([⟨3, (w : Int), 0, 0, ⟨#[]⟩⟩, ⟨4, 0, 0, 0, ⟨#[]⟩⟩] : List Ins) = 0 := rfl
  have h2 : sizes ([⟨2, 0, (w : Int), 0, ⟨#[]⟩⟩] : List Ins) = 0 := rfl
  omega
set_option maxRecDepth 100000 in
theorem fineK_small {p : List Ins} (h : OKP p) (h1 : p.length ≤ 200) (h2 : sizes p ≤ 5000) {w : Nat} (hw : w < 32) : (OKP (bearQ w p) ∧ FineK (bearQ w p)) ∧ (codeT (madeK (bearQ w p))).size ≤ 400000 := by
  have hv := vi_bearQ hw (okp_iff.1 h).2.2
  have hl := bearQ_length w p
  have hz := bearQ_sizes w p
  have hk := knowHead_sizes
  have hkl : knowHead.length = 16 := rfl
  have hq : OKP (bearQ w p) := okp_iff.2 ⟨by omega, by omega, hv⟩
  have hl2 : (knowHead ++ bearQ w p).length ≤ 219 := by rw [List.length_append]; omega
  have hz2 : sizes (knowHead ++ bearQ w p) ≤ 5100 := by rw [sizes_append]; omega
  have hr : OKP (knowHead ++ bearQ w p) := okp_iff.2 ⟨by omega, by omega, vi_append vi_knowHead hv⟩
  have hc := codeL_bound hr 219 5100 hl2 hz2
  have hm : OKP (madeK (bearQ w p)) := by
    unfold madeK
    refine okp_iff.2 ⟨by rw [List.length_append]; show 3 + _ ≤ _; omega, ?_, vi_append (vi_specHead (validT_code hr (by omega))) (vi_append vi_knowHead hv)⟩
    rw [sizes_append, sizes_spec, bs_size]
    omega
  have ht : (codeT (madeK (bearQ w p))).size ≤ 400000 := by
    rw [codeT_madeK hr]
    have h6 := codeT_size hr
    generalize codeT (knowHead ++ bearQ w p) = Y at *
    show 1 + (1 + 1 + (1 + 3 + Y.size)) + (1 + 13 + (1 + 7 + Y.size)) ≤ _
    omega
  refine ⟨⟨hq, ⟨hr, by omega⟩, hm, ?_⟩, ht⟩
  rw [← codeT_size hm]
  omega
end Go.Proofs.YtpnmmpfidiegcaaGreatDoor.Plain
end
section
namespace Go.Proofs.YtpnmmpfidiegcaaGreatDoor.C
open Go.RowKit Go.Proofs.YtpnmmpfidiegcaaGreatDoorW.PrintWords Go.Proofs.YtpnmmpfidiegcaaGreatDoorW.PrintLast Go.Proofs.YtpnmmpfidiegcaaGreatDoorW.PrintMore
open Go.Proofs.YtpnmmpfidiegcaaGreatDoor.Plain (Tr OKP runM codeT lstT itemT ringOf ringOf_length turns tmod_nat)
set_option linter.unusedVariables false
set_option linter.unusedSimpArgs false
theorem prg_at {w : World} {A : Option Addr} {n : Nat} {L : List Prg} (h : Kd.C (Kd.slice 52 k52) w A n L) (hn : L.length = n) (i : Int) (j : Nat) (e : i = (j : Int)) (hj : j < n) :
    ∃ ad A0 c0, A = some ad ∧ w.cell? (ad.add i.toNat) = some (.slice A0 (L[j]'(by omega)).length c0) ∧ (L[j]'(by omega)).length ≤ c0 ∧ Kd.C k52 w A0 (L[j]'(by omega)).length (L[j]'(by omega)) := by
  have hrd : rd_L6 L i = L[j]'(by omega) := by subst e; unfold rd_L6; simp [show j < L.length from by omega]
  have := at_L6 h i (by omega) (by omega)
  rwa [hrd] at this
theorem lstT_drop (l : List Tr) : ∀ j, (lstT (l.drop j)).size ≤ (lstT l).size := by
  intro j
  induction l generalizing j with
  | nil => rw [List.drop_nil]; exact Nat.le_refl _
  | cons t l ih =>
    cases j with
    | zero => exact Nat.le_refl _
    | succ j =>
      have h := ih j
      have e : (lstT (t :: l)).size = 1 + t.size + (lstT l).size := rfl
      rw [List.drop_succ_cons, e]
      omega
set_option maxRecDepth 100000 in
theorem code_small {p : Prg} (h : OKP p) : (codeT p).size ≤ 40000000 := by
  have h1 := Plain.codeT_bound h
  have h2 : p.length * (301 + 2 * p.length) ≤ 4000 * (301 + 2 * 4000) := Nat.mul_le_mul h.1 (by have := h.1; omega)
  have h3 := (Plain.okp_iff.1 h).2.1
  omega
theorem code_drop {p : Prg} (h : OKP p) : ∀ j, (codeT (p.drop j)).size ≤ 1000000000 := by
  intro j
  have h1 := lstT_drop (p.map itemT) j
  rw [← List.map_drop] at h1
  have h2 := code_small h
  exact Nat.le_trans h1 (Nat.le_trans h2 (by decide))
theorem code_yes {A : Option Addr} {c m : Nat} {p : Prg} {w : World} (hm : p.length = m) (hC : Kd.C k52 w A m p) (hp : OKP p) :
    Calls Tryz.prog 13 #[.slice A m c] w fun e w' => ∃ v, e = .returned v ∧ Nd w' (codeT p) v ∧ Below w.heap.size w w' := by
  subst hm
  exact code_calls A c p w hC hp (code_drop hp)
theorem play_to {A : Option Addr} {c m : Nat} {p : Prg} {t : Tr} {x : Value} (k : Nat) (N : Int) {w : World} (hN : N = (k : Int)) (hm : p.length = m) (hC : Kd.C k52 w A m p) (hp : OKP p) (hx : Nd w t x) (hz : t.size ≤ 2000000) (hk : k ≤ 1000000000) :
    Calls Tryz.prog 14 #[.slice A m c, x, .int .i64 N] w (Played w (runM p t k)) := by
  subst hN
  exact play_go A c m p t x k w hm hC hp hx hz hk
theorem ring12 (n : Nat) (hn : 0 < n) (h : n ≤ 12) (k : Nat) (hk : 16000 ≤ k) : ring_Ring.f k (n : Int) = some (ringOf n, 0) := by
  obtain ⟨k', hk', e⟩ := Plain.ring_tells n hn (by omega) k hk
  rw [e]
  exact Plain.together_yes (Plain.okp_turns n hn (by omega)) (by rw [Plain.turns_length]; omega) (by rw [Plain.turns_length]; omega) (Plain.fine12 hn h) k' (by omega)
theorem ring12_okp (n : Nat) (hn : 0 < n) (h : n ≤ 12) : ∀ p ∈ ringOf n, OKP p := fun p hp => (Plain.fine12 hn h).2.1 p hp
set_option maxHeartbeats 4000000 in
set_option maxRecDepth 100000 in
theorem rings_calls (w : World) (hL : LaidW w) : Calls Tryz.prog 7 #[] w fun e w' => e = .returned (.bool true) ∧ Below w.heap.size w w' := by
  have hr : ring_Ring.f 3000000 (3 : Int) = some (ringOf 3, 0) := ring12 3 (by decide) (by decide) 3000000 (by decide)
  have hok := ring12_okp 3 (by decide) (by decide)
  have hlen := ringOf_length 3
  have hrun : ∀ j (hj : j < 3), runM ((ringOf 3)[j]'(by rw [hlen]; exact hj)) .nil 1000 = (codeT ((ringOf 3)[(j + 1) % 3]'(by rw [hlen]; omega)), 26 + 11 * 3 + (j + 1) % 3, 0) := fun j hj => by
    have := Plain.ring_runs 3 j (by decide) (by decide) hj .nil (by decide) (1000 - (26 + 11 * 3 + (j + 1) % 3))
    rwa [show 26 + 11 * 3 + (j + 1) % 3 + (1000 - (26 + 11 * 3 + (j + 1) % 3)) = 1000 from by omega] at this
  generalize ringOf 3 = L at *
  have HNIL : Aside0 (∀ W : World, Nd W .nil (.pointer none)) := ⟨fun _ => rfl⟩
  have HK : Aside0 ((1000 : Int) = ((1000 : Nat) : Int) ∧ Tr.nil.size ≤ 2000000 ∧ 1000 ≤ 1000000000) := ⟨rfl, by decide, by decide⟩
  have HL := Aside0.mk hL
  have HR := Aside0.mk hr
  have HOK := Aside0.mk hok
  have HRUN := Aside0.mk hrun
  have HLEN := Aside0.mk hlen
  clear hL hr hok hrun
  go_enter Tryz.func7, Tryz.ntmps7
  go_wp2_with (go_at_call 17; (with_reducible refine (ring_Ring.calls 3000000 3 L 0 _ HL.out HR.out).mono ?_); rintro e' w2 ⟨vl, rfl, hs, hb⟩; have hs1 := Kd.S_R hs; obtain ⟨A, c, hvl, hcap, hC⟩ := Kd.R_reads hs1; rw [HLEN.out] at hvl hcap hC; subst hvl; have HC := Aside0.mk hC; have HB0 := Aside0.mk hb; clear hs hs1 hb hC)
  go_loopg [3] (3 + 1) (fun kq v3 wr => ∃ i : Nat, v3 = .int .i64 i ∧ i ≤ 3 ∧ Aside0 (kq = 3 - i + 1) ∧ Aside0 (Below w2.heap.size w2 wr))
  case atStart => exact ⟨0, rfl, Nat.zero_le _, ⟨by omega⟩, ⟨Below.refl _ _⟩⟩
  case round =>
    obtain ⟨i, rfl, hi, HI, HBR⟩ := hrel
    by_cases hlt : i < 3
    · have ht : Int.tmod ((i : Int) + 1) 3 = (((i + 1) % 3 : Nat) : Int) := by rw [show (i : Int) + 1 = ((i + 1 : Nat) : Int) from rfl, show (3 : Int) = ((3 : Nat) : Int) from rfl, tmod_nat]
      have hmm : (i + 1) % 3 < 3 := Nat.mod_lt _ (by decide)
      obtain ⟨ad, A1, c1, rfl, cl1, hle1, hC1⟩ := prg_at HC.out HLEN.out (Int.tmod ((i : Int) + 1) 3) ((i + 1) % 3) ht hmm
      obtain ⟨ad', A2, c2, e2, cl2, hle2, hC2⟩ := prg_at HC.out HLEN.out (i : Int) i rfl hlt
      injection e2 with e2
      subst e2
      have b0 : 0 ≤ ((i : Int) + 1) % 3 := Int.emod_nonneg _ (by omega)
      have b1 : ((i : Int) + 1) % 3 < 3 := Int.emod_lt_of_pos _ (by omega)
      have b2 : (i : Int) < 3 := by omega
      have hlL := HLEN.out
      have HP1 := Aside0.mk (HOK.out (L[(i + 1) % 3]'(by omega)) (List.getElem_mem _))
      have HP2 := Aside0.mk (HOK.out (L[i]'(by omega)) (List.getElem_mem _))
      have HRN := Aside0.mk (HRUN.out i hlt)
      generalize (L[(i + 1) % 3]'(by omega)) = q at *
      generalize (L[i]'(by omega)) = p at *
      rw [Int.toNat_natCast] at cl2
      rw [ht, Int.toNat_natCast] at cl1
      replace cl1 := pw_cell_below HBR.out cl1
      replace cl2 := pw_cell_below HBR.out cl2
      have HC1 := Aside0.mk (Kd.C_below hC1 HBR.out)
      have HC2 := Aside0.mk (Kd.C_below hC2 HBR.out)
      have HB := HBR
      obtain ⟨k2, rfl⟩ : ∃ k2, gk = k2 + 1 := ⟨gk - 1, by have := HI.out; omega⟩
      clear hC1 hC2 hle1 hle2 ht hmm hlL
      go_wp2_with (first
        | (go_at_call 11; first
            | ((with_reducible refine (whole_yes (A := A2) rfl HC2.out HP2.out).mono ?_); rintro e w7 ⟨rfl, hb⟩; have HB := Aside0.mk (below_then HB.out HB.out.size hb); have HC1 := Aside0.mk (Kd.C_below HC1.out hb); have HC2 := Aside0.mk (Kd.C_below HC2.out hb); replace cl1 := pw_cell_below hb cl1; replace cl2 := pw_cell_below hb cl2; clear hb)
            | ((with_reducible refine (whole_yes (A := A1) rfl HC1.out HP1.out).mono ?_); rintro e w7 ⟨rfl, hb⟩; have HB := Aside0.mk (below_then HB.out HB.out.size hb); have HC1 := Aside0.mk (Kd.C_below HC1.out hb); have HC2 := Aside0.mk (Kd.C_below HC2.out hb); replace cl1 := pw_cell_below hb cl1; replace cl2 := pw_cell_below hb cl2; clear hb))
        | (go_at_call 14; (with_reducible refine (play_to (A := A2) (t := .nil) 1000 1000 HK.out.1 rfl HC2.out HP2.out (HNIL.out _) HK.out.2.1 HK.out.2.2).mono ?_); rw [HRN.out]; rintro e w7 ⟨hb, ⟨_, v, rfl, hv⟩ | ⟨h0, _⟩ | ⟨h0, _⟩⟩; (have HB := Aside0.mk (below_then HB.out HB.out.size hb)); (have HC1 := Aside0.mk (Kd.C_below HC1.out hb)); (replace cl1 := pw_cell_below hb cl1); (replace cl2 := pw_cell_below hb cl2); (have HV := Aside0.mk hv); (clear hb hv); rotate_left; (exact absurd h0 (show ¬ ((0 : Int) = 7) by decide)); (exact absurd h0 (show ¬ ((0 : Int) = 3) by decide)))
        | (go_at_call 13; (with_reducible refine (code_yes (A := A1) rfl HC1.out HP1.out).mono ?_); rintro e w7 ⟨vc, rfl, hc, hb⟩; have HB := Aside0.mk (below_then HB.out HB.out.size hb); have HV := Aside0.mk (Nd.keep (NK.below hb) _ _ HV.out); have HVC := Aside0.mk hc; clear hb hc)
        | (go_at_call 18; (with_reducible refine (equal_yes (codeT q) v vc _ HV.out HVC.out (by have := code_small HP1.out; omega)).mono ?_); rintro e w7 ⟨rfl, hb⟩; have HB := Aside0.mk (below_then HB.out HB.out.size hb); clear hb))
      go_roundg k2
      case measure => omega
      case rel => exact ⟨i + 1, by go_num, by omega, ⟨by have := HI.out; omega⟩, HB⟩
    · obtain rfl : i = 3 := by omega
      go_wp2
      go_ret
      exact ⟨rfl, below_then HB0.out HB0.out.size HBR.out⟩
end Go.Proofs.YtpnmmpfidiegcaaGreatDoor.C
end
section
namespace Go.Proofs.YtpnmmpfidiegcaaGreatDoor.C
open Go.RowKit Go.Proofs.YtpnmmpfidiegcaaGreatDoorW.PrintWords Go.Proofs.YtpnmmpfidiegcaaGreatDoorW.PrintLast Go.Proofs.YtpnmmpfidiegcaaGreatDoorW.PrintMore
open Go.Proofs.YtpnmmpfidiegcaaGreatDoor.Plain (Tr OKP runM codeT lstT itemT ringOf ringOf_length turns tmod_nat dec)
set_option linter.unusedVariables false
set_option linter.unusedSimpArgs false
abbrev Yes (w : World) (e : Ending) (w' : World) : Prop := e = .returned (.bool true) ∧ Below w.heap.size w w'
def CodesTo (w : World) (hb : Nat) (L : List Prg) (i : Nat) : Prop := ∃ xs : List Value, w.heap[hb]? = some (.cells xs.toArray 23 (0, 0)) ∧ xs.length = L.length ∧ (∀ j, j < L.length → ∃ q, xs[j]? = some (.pointer q)) ∧ ∀ j (h : j < L.length), j < i → ∃ v, xs[j]? = some v ∧ Nd w (codeT L[j]) v
theorem CodesTo.below {w w' : World} {hb i : Nat} {L : List Prg} (h : CodesTo w hb L i) (hbl : Below w.heap.size w w') : CodesTo w' hb L i := by
  obtain ⟨xs, g1, g2, g3, g4⟩ := h
  refine ⟨xs, (hbl.block _ (blk_lt g1)).trans g1, g2, g3, fun j hj hji => ?_⟩
  obtain ⟨v, e, hn⟩ := g4 j hj hji
  exact ⟨v, e, Nd.keep (NK.below hbl) _ _ hn⟩
theorem CodesTo.cell {w : World} {hb i : Nat} {L : List Prg} (h : CodesTo w hb L i) (j : Nat) (hj : j < L.length) : ∃ q, w.cell? ⟨hb, j, none⟩ = some (.pointer q) ∧ w.frozen? ⟨hb, j, none⟩ = false ∧ (j < i → Nd w (codeT L[j]) (.pointer q)) := by
  obtain ⟨xs, g1, g2, g3, g4⟩ := h
  obtain ⟨q, e⟩ := g3 j hj
  refine ⟨q, reg_cell g1 e, blk_frozen g1 j, fun hi => ?_⟩
  obtain ⟨v, e2, hn⟩ := g4 j hj hi
  rw [e] at e2
  injection e2 with e2
  rwa [e2]
theorem CodesTo.put {w : World} {hb i : Nat} {L : List Prg} (h : CodesTo w hb L i) (hi : i < L.length) {q : Option Addr} (hn : Nd w (codeT L[i]) (.pointer q)) : CodesTo (w.setCell ⟨hb, i, none⟩ (.pointer q)) hb L (i + 1) ∧ NK w (w.setCell ⟨hb, i, none⟩ (.pointer q)) := by
  obtain ⟨xs, g1, g2, g3, g4⟩ := h
  have k1 : NK w (w.setCell ⟨hb, i, none⟩ (.pointer q)) := NK.set g1 (by decide) i _
  refine ⟨⟨xs.set i (.pointer q), (blk_set g1 i _).trans (by simp), by rw [List.length_set]; exact g2, fun j hj => ?_, fun j hj hji => ?_⟩, k1⟩
  · by_cases h : j = i
    · subst h
      exact ⟨q, by rw [List.getElem?_set_self (by rw [g2]; exact hj)]⟩
    · rw [List.getElem?_set_ne (by omega)]
      exact g3 j hj
  · by_cases h : j = i
    · subst h
      exact ⟨.pointer q, by rw [List.getElem?_set_self (by rw [g2]; exact hj)], Nd.keep k1 _ _ hn⟩
    · rw [List.getElem?_set_ne (by omega)]
      obtain ⟨v, hv, hn⟩ := g4 j hj (by omega)
      exact ⟨v, hv, Nd.keep k1 _ _ hn⟩
end Go.Proofs.YtpnmmpfidiegcaaGreatDoor.C
end
section
namespace Go.Proofs.YtpnmmpfidiegcaaGreatDoor.C
open Go.RowKit Go.Proofs.YtpnmmpfidiegcaaGreatDoorW.PrintWords Go.Proofs.YtpnmmpfidiegcaaGreatDoorW.PrintLast Go.Proofs.YtpnmmpfidiegcaaGreatDoorW.PrintMore
attribute [local go_sem] max2_int min2_int max_two min_two max_three min_three max_four min_four
set_option linter.unusedVariables false
set_option linter.unusedSimpArgs false
def narcissustop_regs.l0 : Nat → List (S52) → Int → Int → Option (Int)
 | 0, _, _, _ => none
 | k + 1, x0, x3, x4 => if x4 < (x0.length : Int) then (if 0 ≤ x4 then (if ((rd_T52 x0 x4).f0) = 5 then (narcissustop_regs.l0 k x0 (mx x3 ((rd_T52 x0 x4).f1)) (wrap64 (x4 + 1))) else (narcissustop_regs.l0 k x0 (mx (mx (mx x3 ((rd_T52 x0 x4).f1)) ((rd_T52 x0 x4).f2)) ((rd_T52 x0 x4).f3)) (wrap64 (x4 + 1)))) else (none)) else (some (wrap64 (x3 + 1)))
def narcissustop_regs.f (k : Nat) (l0 : List (S52)) : Option (Int) := narcissustop_regs.l0 k l0 0 0
set_option maxHeartbeats 8000000 in
set_option maxRecDepth 100000 in
theorem narcissustop_regs.calls (k : Nat) (A0 : Option Addr) (c0 : Nat) (l0 : List (S52)) (r : Int) (w : World) (hr0 : Kd.C k52 w A0 l0.length l0) (hc0 : l0.length ≤ c0) (h : narcissustop_regs.f k l0 = some r) :
  Calls Tryz.prog 19 #[.slice A0 l0.length c0] w fun e w' => e = .returned (.int .i64 r) ∧ Below w.heap.size w w' := by
 have HR0 := Aside0.mk hr0
 have HC0 := Aside0.mk hc0
 clear hr0 hc0
 have HB := Aside0.mk (Below.refl w.heap.size w)
 have H : (narcissustop_regs.l0 k l0 0 0) = some r := h
 clear h
 have H' := Aside0.mk H
 clear H
 go_enter Tryz.func19, Tryz.ntmps19
 go_wp2
 repeat (go_quiet (fail); try go_wp2)
 go_loopg [3, 4] k (fun kq v3 v4 w' => ∃ (x3_1 : Int) (x4_1 : Int), v3 = .int .i64 x3_1 ∧ v4 = .int .i64 x4_1 ∧ Aside0 (narcissustop_regs.l0 kq l0 x3_1 x4_1 = some r) ∧ Aside0 (kq ≤ k) ∧ Aside0 (Below w.heap.size w w'))
 case atStart => exact ⟨(0), (0), (by first | rfl | (simp; done) | (simp [*]; done)), (by first | rfl | (simp; done) | (simp [*]; done)), H', ⟨Nat.le_refl _⟩, ⟨by repeat (first | (with_reducible first | exact HB.out | apply below_alloc | apply pw_below_drewN | apply below_drew1) | exact HB.out)⟩⟩
 case round =>
  clear H'
  try clear c1
  obtain ⟨x3_1, x4_1, rfl, rfl, HA, HK1, HB⟩ := hrel
  cases gk with
  | zero => exact absurd HA.out (by simp [narcissustop_regs.l0])
  | succ k1 =>
   have H := HA.out
   clear HA
   simp only [narcissustop_regs.l0] at H
   by_cases c2 : x4_1 < (l0.length : Int)
   ·rw [if_pos c2] at H
    have c2b0 : decide (x4_1 < (l0.length : Int)) = true := decide_eq_true c2
    clear c2
    by_cases c3 : 0 ≤ x4_1
    ·rw [if_pos c3] at H
     have c3b0 : decide (0 ≤ x4_1) = true := decide_eq_true c3
     clear c3
     obtain ⟨ji4, hji4⟩ : ∃ j_ : Int, (mx x3_1 ((rd_T52 l0 x4_1).f1)) = j_ := ⟨_, rfl⟩
     replace H : (if ((rd_T52 l0 x4_1).f0) = 5 then (narcissustop_regs.l0 k1 l0 ji4 (wrap64 (x4_1 + 1))) else (narcissustop_regs.l0 k1 l0 (mx (mx (ji4) ((rd_T52 l0 x4_1).f2)) ((rd_T52 l0 x4_1).f3)) (wrap64 (x4_1 + 1)))) = some r := by first | (rw [hji4] at H; exact H) | (simp only [hji4] at H ⊢; exact H)
     have hji4_ : (if x3_1 < ((rd_T52 l0 x4_1).f1) then ((rd_T52 l0 x4_1).f1) else x3_1) = ji4 := hji4
     by_cases c5 : ((rd_T52 l0 x4_1).f0) = 5
     ·rw [if_pos c5] at H
      have c5b0 : (((rd_T52 l0 x4_1).f0) == 5) = true := beq_iff_eq.mpr c5
      have c5b1 : (((rd_T52 l0 x4_1).f0) != 5) = false := bne_eq_false_iff_eq.mpr c5
      clear c5
      have H' := Aside0.mk H
      clear H
      have p1 : 0 ≤ (x4_1 : Int) := of_decide_eq_true (by first | (with_reducible assumption) | assumption)
      have q1 : x4_1 < (l0.length : Int) := of_decide_eq_true (by first | (with_reducible assumption) | assumption)
      obtain ⟨ad1, e1, hx1_0, hx1_1, hx1_2, hx1_3, hx1_4⟩ := at_T52 HR0.out x4_1 p1 q1
      cases e1
      replace hx1_0 := (HB.out.cell (World.block_lt_of_cell? w _ hx1_0)).trans hx1_0
      replace hx1_1 := (HB.out.cell (World.block_lt_of_cell? w _ hx1_1)).trans hx1_1
      replace hx1_2 := (HB.out.cell (World.block_lt_of_cell? w _ hx1_2)).trans hx1_2
      replace hx1_3 := (HB.out.cell (World.block_lt_of_cell? w _ hx1_3)).trans hx1_3
      replace hx1_4 := (HB.out.cell (World.block_lt_of_cell? w _ hx1_4)).trans hx1_4
      replace p1 := eq_true p1
      replace q1 := eq_true q1
      have p2 : 0 ≤ (x4_1 : Int) := of_decide_eq_true (by first | (with_reducible assumption) | assumption)
      have q2 : x4_1 < (l0.length : Int) := of_decide_eq_true (by first | (with_reducible assumption) | assumption)
      obtain ⟨ad2, e2, hx2_0, hx2_1, hx2_2, hx2_3, hx2_4⟩ := at_T52 HR0.out x4_1 p2 q2
      obtain rfl : ad1 = ad2 := (by injection e2)
      replace hx2_0 := (HB.out.cell (World.block_lt_of_cell? w _ hx2_0)).trans hx2_0
      replace hx2_1 := (HB.out.cell (World.block_lt_of_cell? w _ hx2_1)).trans hx2_1
      replace hx2_2 := (HB.out.cell (World.block_lt_of_cell? w _ hx2_2)).trans hx2_2
      replace hx2_3 := (HB.out.cell (World.block_lt_of_cell? w _ hx2_3)).trans hx2_3
      replace hx2_4 := (HB.out.cell (World.block_lt_of_cell? w _ hx2_4)).trans hx2_4
      replace p2 := eq_true p2
      replace q2 := eq_true q2
      go_wp2
      repeat (go_quiet (fail); try go_wp2)
      go_roundg k1
      case measure => have := HK1.out; omega
      case rel => exact ⟨(ji4), (wrap64 (x4_1 + 1)), (by first | rfl | (simp; done) | (simp only [← hji4] <;> (first | rfl | simp)) | (simp [*]; done)), (by first | rfl | (simp; done) | (simp [*]; done)), H', ⟨by have := HK1.out; omega⟩, ⟨by repeat (first | (with_reducible first | exact HB.out | apply below_alloc | apply pw_below_drewN | apply below_drew1) | exact HB.out)⟩⟩
     ·rw [if_neg c5] at H
      have c5b0 : (((rd_T52 l0 x4_1).f0) == 5) = false := beq_eq_false_iff_ne.mpr c5
      have c5b1 : (((rd_T52 l0 x4_1).f0) != 5) = true := bne_iff_ne.mpr c5
      obtain ⟨ji6, hji6⟩ : ∃ j_ : Int, (mx (ji4) ((rd_T52 l0 x4_1).f2)) = j_ := ⟨_, rfl⟩
      replace H : (narcissustop_regs.l0 k1 l0 (mx (ji6) ((rd_T52 l0 x4_1).f3)) (wrap64 (x4_1 + 1))) = some r := by first | (rw [hji6] at H; exact H) | (simp only [hji6] at H ⊢; exact H)
      have hji6_ : (if (ji4) < ((rd_T52 l0 x4_1).f2) then ((rd_T52 l0 x4_1).f2) else (ji4)) = ji6 := hji6
      obtain ⟨ji7, hji7⟩ : ∃ j_ : Int, (mx (ji6) ((rd_T52 l0 x4_1).f3)) = j_ := ⟨_, rfl⟩
      replace H : (narcissustop_regs.l0 k1 l0 ji7 (wrap64 (x4_1 + 1))) = some r := by first | (rw [hji7] at H; exact H) | (simp only [hji7] at H ⊢; exact H)
      have hji7_ : (if (ji6) < ((rd_T52 l0 x4_1).f3) then ((rd_T52 l0 x4_1).f3) else (ji6)) = ji7 := hji7
      have H' := Aside0.mk H
      clear H
      have p1 : 0 ≤ (x4_1 : Int) := of_decide_eq_true (by first | (with_reducible assumption) | assumption)
      have q1 : x4_1 < (l0.length : Int) := of_decide_eq_true (by first | (with_reducible assumption) | assumption)
      obtain ⟨ad1, e1, hx1_0, hx1_1, hx1_2, hx1_3, hx1_4⟩ := at_T52 HR0.out x4_1 p1 q1
      cases e1
      replace hx1_0 := (HB.out.cell (World.block_lt_of_cell? w _ hx1_0)).trans hx1_0
      replace hx1_1 := (HB.out.cell (World.block_lt_of_cell? w _ hx1_1)).trans hx1_1
      replace hx1_2 := (HB.out.cell (World.block_lt_of_cell? w _ hx1_2)).trans hx1_2
      replace hx1_3 := (HB.out.cell (World.block_lt_of_cell? w _ hx1_3)).trans hx1_3
      replace hx1_4 := (HB.out.cell (World.block_lt_of_cell? w _ hx1_4)).trans hx1_4
      replace p1 := eq_true p1
      replace q1 := eq_true q1
      have p2 : 0 ≤ (x4_1 : Int) := of_decide_eq_true (by first | (with_reducible assumption) | assumption)
      have q2 : x4_1 < (l0.length : Int) := of_decide_eq_true (by first | (with_reducible assumption) | assumption)
      obtain ⟨ad2, e2, hx2_0, hx2_1, hx2_2, hx2_3, hx2_4⟩ := at_T52 HR0.out x4_1 p2 q2
      obtain rfl : ad1 = ad2 := (by injection e2)
      replace hx2_0 := (HB.out.cell (World.block_lt_of_cell? w _ hx2_0)).trans hx2_0
      replace hx2_1 := (HB.out.cell (World.block_lt_of_cell? w _ hx2_1)).trans hx2_1
      replace hx2_2 := (HB.out.cell (World.block_lt_of_cell? w _ hx2_2)).trans hx2_2
      replace hx2_3 := (HB.out.cell (World.block_lt_of_cell? w _ hx2_3)).trans hx2_3
      replace hx2_4 := (HB.out.cell (World.block_lt_of_cell? w _ hx2_4)).trans hx2_4
      replace p2 := eq_true p2
      replace q2 := eq_true q2
      have p3 : 0 ≤ (x4_1 : Int) := of_decide_eq_true (by first | (with_reducible assumption) | assumption)
      have q3 : x4_1 < (l0.length : Int) := of_decide_eq_true (by first | (with_reducible assumption) | assumption)
      obtain ⟨ad3, e3, hx3_0, hx3_1, hx3_2, hx3_3, hx3_4⟩ := at_T52 HR0.out x4_1 p3 q3
      obtain rfl : ad1 = ad3 := (by injection e3)
      replace hx3_0 := (HB.out.cell (World.block_lt_of_cell? w _ hx3_0)).trans hx3_0
      replace hx3_1 := (HB.out.cell (World.block_lt_of_cell? w _ hx3_1)).trans hx3_1
      replace hx3_2 := (HB.out.cell (World.block_lt_of_cell? w _ hx3_2)).trans hx3_2
      replace hx3_3 := (HB.out.cell (World.block_lt_of_cell? w _ hx3_3)).trans hx3_3
      replace hx3_4 := (HB.out.cell (World.block_lt_of_cell? w _ hx3_4)).trans hx3_4
      replace p3 := eq_true p3
      replace q3 := eq_true q3
      have p4 : 0 ≤ (x4_1 : Int) := of_decide_eq_true (by first | (with_reducible assumption) | assumption)
      have q4 : x4_1 < (l0.length : Int) := of_decide_eq_true (by first | (with_reducible assumption) | assumption)
      obtain ⟨ad4, e4, hx4_0, hx4_1, hx4_2, hx4_3, hx4_4⟩ := at_T52 HR0.out x4_1 p4 q4
      obtain rfl : ad1 = ad4 := (by injection e4)
      replace hx4_0 := (HB.out.cell (World.block_lt_of_cell? w _ hx4_0)).trans hx4_0
      replace hx4_1 := (HB.out.cell (World.block_lt_of_cell? w _ hx4_1)).trans hx4_1
      replace hx4_2 := (HB.out.cell (World.block_lt_of_cell? w _ hx4_2)).trans hx4_2
      replace hx4_3 := (HB.out.cell (World.block_lt_of_cell? w _ hx4_3)).trans hx4_3
      replace hx4_4 := (HB.out.cell (World.block_lt_of_cell? w _ hx4_4)).trans hx4_4
      replace p4 := eq_true p4
      replace q4 := eq_true q4
      go_wp2
      repeat (go_quiet (fail); try go_wp2)
      go_roundg k1
      case measure => have := HK1.out; omega
      case rel => exact ⟨(ji7), (wrap64 (x4_1 + 1)), (by first | rfl | (simp; done) | (simp only [← hji7] <;> (first | rfl | simp)) | (simp [*]; done)), (by first | rfl | (simp; done) | (simp [*]; done)), H', ⟨by have := HK1.out; omega⟩, ⟨by repeat (first | (with_reducible first | exact HB.out | apply below_alloc | apply pw_below_drewN | apply below_drew1) | exact HB.out)⟩⟩
    ·rw [if_neg c3] at H
     exact absurd H (by simp)
   ·rw [if_neg c2] at H
    have c2b0 : decide (x4_1 < (l0.length : Int)) = false := decide_eq_false c2
    clear c2
    obtain rfl := Option.some.inj H
    go_wp2
    repeat (go_quiet (fail); try go_wp2)
    go_ret
    exact ⟨by first | rfl | (simp [errW_none, errW_some] <;> rfl) | (simp [*, errW_none, errW_some] <;> rfl), by repeat (first | (with_reducible first | exact HB.out | apply below_alloc | apply pw_below_drewN | apply below_drew1) | exact HB.out)⟩
end Go.Proofs.YtpnmmpfidiegcaaGreatDoor.C
end
section
namespace Go.Proofs.YtpnmmpfidiegcaaGreatDoor.Plain
open Go.Proofs.YtpnmmpfidiegcaaGreatDoor.C
open Go.RowKit Go.Proofs.YtpnmmpfidiegcaaGreatDoorW.PrintWords Go.Proofs.YtpnmmpfidiegcaaGreatDoorW.PrintLast Go.Proofs.YtpnmmpfidiegcaaGreatDoorW.PrintMore
set_option linter.unusedVariables false
set_option linter.unusedSimpArgs false
theorem topT_l (p : List Ins) (hp : OKP p) (d : Nat) : ∀ (k i : Nat) (m : Int), p.length - i = d → i ≤ p.length → d < k → 0 ≤ m → m < 32 →
    ∃ M : Int, m ≤ M ∧ M < 32 ∧ (∀ x ∈ p.drop i, Under M x) ∧ code_Regs.l0 k m p (p.length : Int) (i : Int) = some (M + 1, 0) ∧ narcissustop_regs.l0 k p m (i : Int) = some (M + 1) := by
  have h4 := hp.1
  induction d with
  | zero =>
    intro k i m hd hi hk h0 h1
    obtain ⟨k, rfl⟩ : ∃ m, k = m + 1 := ⟨k - 1, by omega⟩
    refine ⟨m, Int.le_refl _, h1, ?_, ?_, ?_⟩
    · rw [List.drop_eq_nil_of_le (by omega)]; intro x hx; cases hx
    · rw [code_Regs.l0, if_neg (by omega), wrap_small (by omega) (by omega)]
    · rw [narcissustop_regs.l0, if_neg (by omega), wrap_small (by omega) (by omega)]
  | succ d ih =>
    intro k i m hd hi hk h0 h1
    obtain ⟨k, rfl⟩ : ∃ m, k = m + 1 := ⟨k - 1, by omega⟩
    have hlt : i < p.length := by omega
    have hr := hp.2.2 i hlt
    have hdrop : p.drop i = p[i] :: p.drop (i + 1) := List.drop_eq_getElem_cons hlt
    have hrd : rd_T52 p (i : Int) = p[i] := rd_ins p i hlt
    have w1 : wrap64 ((i : Int) + 1) = ((i + 1 : Nat) : Int) := wrap_small (by omega) (by omega)
    rw [code_Regs.l0, if_pos (by omega), if_pos (by omega), if_pos (by omega), w1]
    have e2 : narcissustop_regs.l0 (k + 1) p m (i : Int) = if (rd_T52 p (i : Int)).f0 = 5 then narcissustop_regs.l0 k p (mx m (rd_T52 p (i : Int)).f1) ((i + 1 : Nat) : Int) else narcissustop_regs.l0 k p (mx (mx (mx m (rd_T52 p (i : Int)).f1) (rd_T52 p (i : Int)).f2) (rd_T52 p (i : Int)).f3) ((i + 1 : Nat) : Int) := by
      rw [narcissustop_regs.l0, if_pos (by omega), if_pos (by omega), w1]
    rw [e2, hdrop]
    clear e2
    rw [hrd] at hr ⊢
    clear hrd hdrop
    generalize p[i] = x at hr ⊢
    have hb := rightReg hr
    have b1 := mx_both h1 hb.1.2
    have next : ∀ m', 0 ≤ m' → m' < 32 → ∃ M : Int, m' ≤ M ∧ M < 32 ∧ (∀ x ∈ p.drop (i + 1), Under M x) ∧ code_Regs.l0 k m' p (p.length : Int) ((i + 1 : Nat) : Int) = some (M + 1, 0) ∧ narcissustop_regs.l0 k p m' ((i + 1 : Nat) : Int) = some (M + 1) :=
      fun m' hm0 hm1 => ih k (i + 1) m' (by omega) (by omega) (by omega) hm0 hm1
    by_cases h5 : x.f0 = 5
    · rw [if_pos h5, if_pos h5]
      obtain ⟨M, a1, a2, a3, a4, a5⟩ := next _ (by omega) b1.2.2
      refine ⟨M, by omega, a2, fun y hy => ?_, a4, a5⟩
      rcases List.mem_cons.1 hy with rfl | hy
      · exact ⟨by omega, fun h => absurd h5 h⟩
      · exact a3 y hy
    · have hb2 := hb.2 h5
      have b2 := mx_both b1.2.2 hb2.1.2
      have b3 := mx_both b2.2.2 hb2.2.2
      rw [if_neg h5, if_neg h5]
      obtain ⟨M, a1, a2, a3, a4, a5⟩ := next _ (by omega) b3.2.2
      refine ⟨M, by omega, a2, fun y hy => ?_, a4, a5⟩
      rcases List.mem_cons.1 hy with rfl | hy
      · exact ⟨by omega, fun _ => ⟨by omega, by omega⟩⟩
      · exact a3 y hy
theorem topT_yes {p : List Ins} (hp : OKP p) (k : Nat) (hk : 4010 ≤ k) : ∃ w : Nat, 1 ≤ w ∧ w ≤ 32 ∧ (∀ x ∈ p, Under ((w : Int) - 1) x) ∧ code_Regs.f k p = some ((w : Int), 0) ∧ narcissustop_regs.f k p = some (w : Int) := by
  have h4 := hp.1
  obtain ⟨M, a1, a2, a3, a4, a5⟩ := topT_l p hp p.length k 0 0 rfl (Nat.zero_le _) (by omega) (by decide) (by decide)
  obtain ⟨n, rfl⟩ := Int.eq_ofNat_of_zero_le a1
  refine ⟨n + 1, by omega, by omega, fun x hx => ?_, ?_, a5⟩
  · have := a3 x hx
    rwa [show ((n + 1 : Nat) : Int) - 1 = (n : Int) from by omega]
  · unfold code_Regs.f
    rw [validp_yes hk hp, Option.bind_some, if_pos rfl]
    exact a4
theorem bearT_yes {p : List Ins} (hp : OKP p) {w : Nat} (h31 : w ≤ 31) (hf : OKP (bearQ w p) ∧ FineK (bearQ w p)) (k : Nat) (hk : 8120 ≤ k) (h1 : code_Regs.f k p = some ((w : Int), 0)) : ring_Bearer.f k p = some (madeK (bearQ w p), 0) := by
  rw [ringBearer_is hp h31 k h1, validp_yes (by omega) hf.1, Option.bind_some, if_pos rfl, know_yes hf.1 hf.2 k (by omega)]; rfl
theorem runM_how (p : List Ins) (x : Tr) (k : Nat) : (runM p x k).2.1 ≤ k ∧ ((runM p x k).2.2 = 0 ∨ (runM p x k).2.2 = 7 ∨ (runM p x k).2.2 = 3) := by
  have hn := after_le p k 0 (init x)
  unfold runM
  dsimp only
  split
  · split
    · exact ⟨hn, .inl rfl⟩
    · exact ⟨Nat.zero_le _, .inr (.inl rfl)⟩
  · exact ⟨Nat.zero_le _, .inr (.inr rfl)⟩
end Go.Proofs.YtpnmmpfidiegcaaGreatDoor.Plain
end
section
namespace Go.Proofs.YtpnmmpfidiegcaaGreatDoor.C
open Go.RowKit Go.Proofs.YtpnmmpfidiegcaaGreatDoorW.PrintWords Go.Proofs.YtpnmmpfidiegcaaGreatDoorW.PrintLast Go.Proofs.YtpnmmpfidiegcaaGreatDoorW.PrintMore
attribute [local go_sem] max2_int min2_int max_two min_two max_three min_three max_four min_four
set_option linter.unusedVariables false
set_option linter.unusedSimpArgs false
def narcissustop_twin.f (l0 : List (S52)) : Option ((List (S52))) := (some (([] : List (S52)) : List (S52))).bind fun y1 => (if y1.length + l0.length < 2932031007402 then (some (y1 ++ l0)) else (none))
set_option maxHeartbeats 8000000 in
set_option maxRecDepth 100000 in
theorem narcissustop_twin.calls (A0 : Option Addr) (c0 : Nat) (l0 : List (S52)) (r : List (S52)) (w : World) (hr0 : Kd.C k52 w A0 l0.length l0) (hc0 : l0.length ≤ c0) (h : narcissustop_twin.f l0 = some r) :
  Calls Tryz.prog 9 #[.slice A0 l0.length c0] w fun e w' => ∃ v0_ : Value, e = .returned (v0_) ∧ Kd.R k52 52 w' w.heap.size (fun _ => True) v0_ r ∧ Below w.heap.size w w' := by
 have HR0 := Aside0.mk hr0
 have HC0 := Aside0.mk hc0
 clear hr0 hc0
 have HB := Aside0.mk (Below.refl w.heap.size w)
 have H : ((some (([] : List (S52)) : List (S52))).bind fun y1 => (if y1.length + l0.length < 2932031007402 then (some (y1 ++ l0)) else (none))) = some r := h
 clear h
 obtain ⟨y1, hy1⟩ : ∃ y_ : List (S52), y_ = (([] : List (S52))) := ⟨_, rfl⟩
 replace H : (if y1.length + l0.length < 2932031007402 then (some (y1 ++ l0)) else (none)) = some r := by first | (rw [hy1]; with_reducible exact H) | (have H2_ := (Option.bind_some _ _).symm.trans H; rw [hy1]; with_reducible exact H2_) | (have H2_ := (Option.bind_some _ _).symm.trans H; with_reducible exact H2_) | with_reducible exact H | (rw [hy1]; exact H) | exact H
 have Ny1 := Aside0.mk hy1
 clear hy1
 by_cases c2 : y1.length + l0.length < 2932031007402
 ·rw [if_pos c2] at H
  have LMc2 := Aside0.mk c2
  clear c2
  obtain ⟨y4, hy4⟩ : ∃ y_ : List (S52), y_ = (y1 ++ l0) := ⟨_, rfl⟩
  replace H : (some y4) = some r := by first | (rw [hy4]; with_reducible exact H) | (have H2_ := (Option.bind_some _ _).symm.trans H; rw [hy4]; with_reducible exact H2_) | (have H2_ := (Option.bind_some _ _).symm.trans H; with_reducible exact H2_) | with_reducible exact H | (rw [hy4]; exact H) | exact H
  have Ny4 := Aside0.mk hy4
  clear hy4
  obtain rfl := Option.some.inj H
  go_enter Tryz.func9, Tryz.ntmps9
  go_wp2_with (first | ((with_reducible refine gate_dst (N := 3) rfl ?_); refine Kd.R_lit k52 _ 52 ?hg (N := 3) ?hd (xs := ([] : List (S52))) (inner := []) (ok := fun _ => True) (okp := fun _ => True) ?hr ?hp (fun _ hk => hk) trivial (Below.refl _ _) (Nat.le_refl _) (by simp) ?_; (case hd => rfl); (case hg => rfl); (case hr => first | (go_simp; done) | (go_simp; rfl)); (case hp => exact (Reps.none _ _)); intro v2 w3 ho4 hb hg_ hnew_; clear hg_ hnew_; (first | rw [← Ny1.out] at ho4 | (simp only [Int.reduceToNat] at ho4; rw [← Ny1.out] at ho4)); have n0_ := Aside0.mk (Kd.R_lower ho4 (below_size (by repeat (first | (with_reducible first | exact HB.out | apply below_alloc | apply pw_below_drewN | apply below_drew1) | exact HB.out)))); have n1_ := Aside0.mk (below_step (by repeat (first | (with_reducible first | exact HB.out | apply below_alloc | apply pw_below_drewN | apply below_drew1) | exact HB.out)) hb); clear HB; have HO3 := n0_; have HB := n1_; clear n0_ n1_; clear hb ho4) | ((with_reducible refine gate_builtin (b := .append) (xs := #[.tmp 3, .tmp 4]) rfl ?_); at_builtin; refine Kd.R_append_rows k52 (w0 := w) w.heap.size rfl (.tmp 3) (.tmp 4) 29 52 (.agg #[(.int .i64 0), (.int .i64 0), (.int .i64 0), (.int .i64 0), (.string ⟨#[]⟩)]) 48 rfl Tryz.underlying29 info52 rfl (by decide) (by omega) v2 y1 l0 _ _ _ (fun _ => True) (fun _ => False) rfl rfl ?aO ?aR (fun _ _ h => h) (fun _ h => h.elim) ?aF ?aB ?aS ?aL ?_; (case aR => repeat (first | exact (Kd.C_below HR0.out HB.out) | (with_reducible refine Kd.C_alloc ?_ _) | (with_reducible refine Kd.C_drewN ?_ _) | (with_reducible refine Kd.C_drew ?_))); (case aB => exact (by repeat (first | (with_reducible first | exact HB.out | apply below_alloc | apply pw_below_drewN | apply below_drew1) | exact HB.out))); (case aF => exact (fun _ _ => trivial)); (case aO => exact (by (with_reducible repeat (first | apply Kd.R_alloc | apply Kd.R_drewN | apply Kd.R_drew)); exact HO3.out)); (case aS => exact (below_size (by repeat (first | (with_reducible first | exact HB.out | apply below_alloc | apply pw_below_drewN | apply below_drew1) | exact HB.out)))); (case aL => have := LMc2.out; first | omega | (simp only [lit_size, List.size_toArray, List.length_cons, List.length_nil]; omega)); intro v5 w5 ho hb hg hat; rw [← Ny4.out] at ho; have n0_ := Aside0.mk (hb); have n1_ := Aside0.mk (ho); clear HB; clear HO3; have HB := n0_; have HO6 := n1_; clear n0_ n1_; clear ho hb hg hat))
  go_ret
  exact ⟨_, by first | rfl | (simp [errW_none, errW_some] <;> rfl) | (simp [*, errW_none, errW_some] <;> rfl), by (with_reducible repeat (first | apply Kd.R_alloc | apply Kd.R_drewN | apply Kd.R_drew)); exact HO6.out, by repeat (first | (with_reducible first | exact HB.out | apply below_alloc | apply pw_below_drewN | apply below_drew1) | exact HB.out)⟩
 ·rw [if_neg c2] at H
  exact absurd H (by simp)
end Go.Proofs.YtpnmmpfidiegcaaGreatDoor.C
end
