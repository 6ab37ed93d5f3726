/- Texts of this claim, together: what the functions return, and what they say in plain words. -/
import Derived.Test.YtocoamgbpoommaaGreatDoorUW
import Derived.Test.YtocoamgbpoommaaGreatDoorUX
import Derived.Test.YtocoamgbpoommaaGreatDoorUL
import Derived.Test.YtocoamgbpoommaaGreatDoorUB
import Derived.Test.YtocoamgbpoommaaGreatDoorUC
import Derived.Test.YtocoamgbpoommaaGreatDoorUV
import Derived.Test.YtocoamgbpoommaaGreatDoorUT
import Derived.Test.YtocoamgbpoommaaGreatDoorUP
import Derived.Test.YtocoamgbpoommaaGreatDoorUS
section
namespace Go.Proofs.YtocoamgbpoommaaGreatDoor.Plain
open Go.Proofs.YtocoamgbpoommaaGreatDoor.C
open Go.RowKit Go.Proofs.YtocoamgbpoommaaGreatDoorW.PrintWords Go.Proofs.YtocoamgbpoommaaGreatDoorW.PrintLast Go.Proofs.YtocoamgbpoommaaGreatDoorW.PrintMore
set_option linter.unusedVariables false
set_option linter.unusedSimpArgs false
abbrev iHead : Ins := ⟨3, 0, 0, 0, ⟨#[]⟩⟩
abbrev iTail : Ins := ⟨4, 0, 0, 0, ⟨#[]⟩⟩
def turns (n : Nat) : List (List Ins) := (List.range n).map (turnP n)
theorem turns_length (n : Nat) : (turns n).length = n := by unfold turns; simp
theorem tmod_nat (a n : Nat) : Int.tmod (a : Int) (n : Int) = ((a % n : Nat) : Int) := rfl
theorem range_drop {n i : Nat} (h : i < n) : (List.range n).drop i = i :: (List.range n).drop (i + 1) := by
  rw [List.drop_eq_getElem_cons (by simpa using h)]; simp
theorem ring_l1 (n i : Nat) (hn : 0 < n) (hn2 : n ≤ 40) (hi : i < n) (acc : List (List Ins)) (ha : acc.length = i) : ∀ (d k j : Nat) (p : List Ins), (i + 1) % n - j = d → j ≤ (i + 1) % n → d < k → p.length ≤ j + 1 →
    ring_Ring.l1 k n acc p n i (((i + 1) % n : Nat) : Int) (j : Int) = ring_Ring.l0 (k - d - 1) n (acc ++ [p ++ (List.replicate d iTail ++ [iHead])]) n (i + 1 : Nat)
  | d, k, j, p, hd, hj, hk, hp => by
    obtain ⟨k, rfl⟩ : ∃ m, k = m + 1 := ⟨k - 1, by omega⟩
    have hm : (i + 1) % n < n := Nat.mod_lt _ hn
    rw [ring_Ring.l1]
    by_cases hlt : j < (i + 1) % n
    · rw [if_pos (by omega), if_pos (by omega), wrap_small (by omega) (by omega), show (j : Int) + 1 = ((j + 1 : Nat) : Int) from rfl]
      rw [ring_l1 n i hn hn2 hi acc ha ((i + 1) % n - (j + 1)) k (j + 1) _ rfl (by omega) (by omega) (by rw [List.length_append, List.length_singleton]; omega)]
      obtain ⟨e, rfl⟩ : ∃ e, d = e + 1 := ⟨d - 1, by omega⟩
      rw [show (i + 1) % n - (j + 1) = e from by omega, show k + 1 - (e + 1) - 1 = k - e - 1 from by omega, List.append_assoc, List.replicate_succ]
      rfl
    · obtain rfl : d = 0 := by omega
      rw [if_neg (by omega), if_pos (by omega), if_pos (by omega), wrap_small (by omega) (by omega)]
      rfl
  termination_by d => d
theorem ring_l0 (n : Nat) (hn : 0 < n) (hn2 : n ≤ 40) : ∀ (d k i : Nat) (acc : List (List Ins)), n - i = d → i ≤ n → d * 50 + 12000 < k → acc.length = i →
    ∃ k', 12000 ≤ k' ∧ ring_Ring.l0 k n acc n (i : Int) = ring_Together.f k' (acc ++ ((List.range n).drop i).map (turnP n))
  | d, k, i, acc, hd, hi, hk, ha => by
    obtain ⟨k, rfl⟩ : ∃ m, k = m + 1 := ⟨k - 1, by omega⟩
    by_cases hlt : i < n
    · have hm : (i + 1) % n < n := Nat.mod_lt _ hn
      obtain ⟨e, rfl⟩ : ∃ e, d = e + 1 := ⟨d - 1, by omega⟩
      have hw : wrap64 ((i : Int) + 1) = ((i + 1 : Nat) : Int) := by rw [wrap_small (by omega) (by omega)]; rfl
      have h1 := ring_l1 n i hn hn2 hlt acc ha ((i + 1) % n) k 0 [iHead] rfl (Nat.zero_le _) (by omega) (by simp)
      rw [show ((0 : Nat) : Int) = 0 from rfl] at h1
      obtain ⟨k', hk', e2⟩ := ring_l0 n hn hn2 e (k - (i + 1) % n - 1) (i + 1) (acc ++ [[iHead] ++ (List.replicate ((i + 1) % n) iTail ++ [iHead])]) (by omega) (by omega) (by omega) (by rw [List.length_append, List.length_singleton]; omega)
      refine ⟨k', hk', ?_⟩
      rw [ring_Ring.l0, if_pos (by omega), if_neg (by omega), hw, tmod_nat, h1, e2, range_drop hlt]
      simp [turnP]
    · refine ⟨k, by omega, ?_⟩
      rw [ring_Ring.l0, if_neg (by omega), List.drop_eq_nil_of_le (by simp; omega), List.map_nil, List.append_nil]
      cases ring_Together.f k acc <;> rfl
  termination_by d => d
theorem ring_tells (n : Nat) (hn : 0 < n) (hn2 : n ≤ 40) (k : Nat) (hk : 16000 ≤ k) : ∃ k', 12000 ≤ k' ∧ ring_Ring.f k (n : Int) = ring_Together.f k' (turns n) := by
  obtain ⟨k, rfl⟩ : ∃ m, k = m + 1 := ⟨k - 1, by omega⟩
  obtain ⟨k', hk', e⟩ := ring_l0 n hn hn2 n k 0 [] rfl (Nat.zero_le _) (by omega) rfl
  rw [show ((0 : Nat) : Int) = 0 from rfl] at e
  refine ⟨k', hk', ?_⟩
  unfold ring_Ring.f
  rw [if_neg (by omega), ring_Ring.j0, if_neg (by simp; omega), e]
  simp [turns]
theorem turn_ins (n j : Nat) : ∀ x ∈ turnP n j, (x.f0 = 3 ∨ x.f0 = 4) ∧ x.f1 = 0 ∧ x.f2 = 0 ∧ x.f3 = 0 ∧ x.f4 = ⟨#[]⟩ := by
  intro x hx
  unfold turnP at hx
  simp only [List.mem_cons, List.mem_append, List.mem_replicate, List.not_mem_nil, or_false] at hx
  rcases hx with rfl | ⟨_, rfl⟩ | rfl
  · exact ⟨.inl rfl, rfl, rfl, rfl, rfl⟩
  · exact ⟨.inr rfl, rfl, rfl, rfl, rfl⟩
  · exact ⟨.inl rfl, rfl, rfl, rfl, rfl⟩
theorem vi_turn (n j : Nat) : VI (turnP n j) := by
  intro i hi
  obtain ⟨h0, h1, h2, h3, h4⟩ := turn_ins n j _ (List.getElem_mem hi)
  refine .inr (.inl ⟨by omega, ?_, ?_, h3, by rw [h4]⟩)
  · rw [h1]; exact ⟨by decide, by decide⟩
  · rw [h2]; exact ⟨by decide, by decide⟩
theorem sizes_zero : ∀ p : List Ins, (∀ x ∈ p, x.f4 = ⟨#[]⟩) → sizes p = 0
  | [], _ => rfl
  | x :: p, h => by
    have ih := sizes_zero p fun y hy => h y (List.mem_cons_of_mem _ hy)
    unfold sizes at *
    rw [List.map_cons, List.sum_cons, ih, h x List.mem_cons_self]
    rfl
theorem turn_size (n j : Nat) : sizes (turnP n j) = 0 := sizes_zero _ fun x hx => (turn_ins n j x hx).2.2.2.2
theorem okp_turn (n j : Nat) (hn : 0 < n) (h : n ≤ 40) : OKP (turnP n j) := by
  have hm : (j + 1) % n < n := Nat.mod_lt _ hn
  exact okp_iff.2 ⟨by unfold turnP; simp; omega, by rw [turn_size]; omega, vi_turn n j⟩
theorem okp_turns (n : Nat) (hn : 0 < n) (h : n ≤ 40) : ∀ p ∈ turns n, OKP p := by
  intro p hp
  obtain ⟨j, _, rfl⟩ := List.mem_map.1 hp
  exact okp_turn n j hn h
end Go.Proofs.YtocoamgbpoommaaGreatDoor.Plain
end
section
namespace Go.Proofs.YtocoamgbpoommaaGreatDoor.Plain
open Go.Proofs.YtocoamgbpoommaaGreatDoor.C
open Go.RowKit Go.Proofs.YtocoamgbpoommaaGreatDoorW.PrintWords Go.Proofs.YtocoamgbpoommaaGreatDoorW.PrintLast Go.Proofs.YtocoamgbpoommaaGreatDoorW.PrintMore
set_option linter.unusedVariables false
set_option linter.unusedSimpArgs false
theorem dec_codeL {p : List Ins} (h : OKP p) : dec (codeL p) = codeT p := by rw [← codeT_enc (okp_nice h), dec_enc]
theorem codeT_size {p : List Ins} (h : OKP p) : (codeT p).size = (codeL p).length := by rw [← Tr.enc_length, codeT_enc (okp_nice h)]
theorem turns_one : turns 1 = [[iHead, iHead]] := rfl
theorem sizes_spec (y : ByteArray) : sizes (specHead y) = y.size + 1 := rfl
def ringOne : List Ins := specHead (bs (tabL (behind (turns 1)))) ++ ringHead ++ [iHead, iHead]
theorem made_one : madeL (behind (turns 1)) = [ringOne] := by
  rw [turns_one]
  simp [madeL, behind, ringOne, turns_one]
set_option maxRecDepth 100000 in
theorem one_code : (codeL (ringHead ++ [iHead, iHead])).length ≤ 5000 := by decide +kernel
theorem one_tab : (tabL (behind (turns 1))).length ≤ 5002 := by
  rw [tabL_length, turns_one]
  have := one_code
  simp only [behind, List.map_cons, List.map_nil, lsum]
  omega
theorem one_good : GoodL (behind (turns 1)) := by
  have hc := one_code
  rw [turns_one]
  refine ⟨fun e he => ?_, ?_⟩
  · simp only [behind, List.map_cons, List.map_nil, List.mem_singleton] at he
    subst he
    exact okp_iff.2 ⟨by decide, by decide +kernel, vi_append vi_ringHead (vi_turn 1 0)⟩
  · simp only [behind, List.map_cons, List.map_nil, lsum]
    omega
theorem one_okp : OKP ringOne := by
  have hv : VI ringOne := by
    unfold ringOne
    rw [List.append_assoc]
    exact vi_append (vi_specHead (validT_tab one_good)) (vi_append vi_ringHead (vi_turn 1 0))
  refine okp_iff.2 ⟨by decide, ?_, hv⟩
  have h1 : sizes ringOne = sizes (specHead (bs (tabL (behind (turns 1))))) + sizes (ringHead ++ [iHead, iHead]) := by
    unfold ringOne sizes
    rw [List.append_assoc, List.map_append, List.sum_append]
  have h2 : sizes (ringHead ++ [iHead, iHead]) ≤ 1000 := by decide +kernel
  have h3 : sizes (specHead (bs (tabL (behind (turns 1))))) = (tabL (behind (turns 1))).length + 1 := by
    rw [sizes_spec, bs_size]
  have := one_tab
  omega
theorem one_codeT : codeT ringOne = cellT (dec (tabL (behind (turns 1)))) (codeT (ringHead ++ [iHead, iHead])) := by
  unfold ringOne
  rw [List.append_assoc, codeT_spec, bl_bs]
theorem one_size : (codeT ringOne).size ≤ 11000 := by
  have h1 := one_tab
  have h2 := one_code
  have hT : IsT (tabL (behind (turns 1))) := by have := (validT_tab one_good).2; rwa [bl_bs] at this
  have h3 : (dec (tabL (behind (turns 1)))).size = (tabL (behind (turns 1))).length := by rw [← Tr.enc_length, enc_dec hT]
  have hr : OKP (ringHead ++ [iHead, iHead]) := one_good.1 _ (by rw [turns_one]; exact List.mem_singleton.2 rfl)
  have h4 := codeT_size hr
  rw [one_codeT]
  generalize dec (tabL (behind (turns 1))) = Y at *
  generalize codeT (ringHead ++ [iHead, iHead]) = c at *
  show 1 + (1 + 1 + (1 + 3 + Y.size)) + (1 + 13 + (1 + 7 + c.size)) ≤ 11000
  omega
theorem one_len : (codeL ringOne).length ≤ 2000000 := by
  rw [← codeT_size one_okp]
  have := one_size
  omega
theorem one_fine : Fine (turns 1) := by
  refine ⟨one_good, ?_, ?_⟩
  · intro e he
    rw [made_one] at he
    rw [List.mem_singleton.1 he]
    exact one_okp
  · rw [made_one]
    have := one_size
    rw [codeT_size one_okp] at this
    simp only [lsum]
    omega
theorem one_run : runM ringOne .nil 100 = (codeT ringOne, 37, 0) := by
  have hn : ∀ p ∈ turns 1, ∀ x ∈ ringHead ++ p, Nice x := fun p hp => okp_nice (one_good.1 _ (List.mem_map.2 ⟨p, hp, rfl⟩))
  have hm : [iHead, iHead] ∈ turns 1 := by rw [turns_one]; exact List.mem_singleton.2 rfl
  have hall : (madeL ((turns 1).map fun p => ringHead ++ p)).map codeT = [codeT ringOne] := by
    rw [show (turns 1).map (fun p => ringHead ++ p) = behind (turns 1) from rfl, made_one]; rfl
  have hsz := one_size
  have hb := ring_begins (turns 1) hn [iHead, iHead] hm .nil (by rw [hall]; show 1 + (1 + (codeT ringOne).size + 1) + 1 ≤ _; omega)
  rw [hall, turns_length] at hb
  have ht := turn_run 1 0 [codeT ringOne] .nil (by omega) rfl 65 (by omega)
  have hr := run_behind (pre := specHead (bs (tabL (behind (turns 1)))) ++ ringHead) (p := turnP 1 0) (m := 35) (x := .nil) (y := .cons (lstT [codeT ringOne]) .nil) (fun j hj => by
    have := vi_turn 1 0 j hj
    rw [List.getD_eq_getElem?_getD, List.getElem?_eq_getElem hj]
    exact this) hb 65
  rw [ht] at hr
  exact hr
theorem awake_is (k : Nat) (hk : 16000 ≤ k) : ring_Ring.f k 1 = some ([ringOne], 0) := by
  obtain ⟨k', hk', e⟩ := ring_tells 1 (by omega) (by omega) k hk
  rw [show (1 : Int) = ((1 : Nat) : Int) from rfl, e, together_yes (okp_turns 1 (by omega) (by omega)) (by rw [turns_length]; omega) (by rw [turns_length]; omega) one_fine k' (by omega), made_one]
end Go.Proofs.YtocoamgbpoommaaGreatDoor.Plain
end
section
namespace Go.Proofs.YtocoamgbpoommaaGreatDoor.C
open Go.RowKit Go.Proofs.YtocoamgbpoommaaGreatDoorW.PrintWords Go.Proofs.YtocoamgbpoommaaGreatDoorW.PrintLast Go.Proofs.YtocoamgbpoommaaGreatDoorW.PrintMore
open Go.Proofs.YtocoamgbpoommaaGreatDoor.Plain (Tr dec OKP codeL codeT codeT_enc okp_nice isT_codeL refValidp_yes okp_fits refCoded_yes bs bl_bs bs_size runM dec_enc dec_codeL codeT_size)
set_option linter.unusedVariables false
set_option linter.unusedSimpArgs false
set_option maxHeartbeats 2000000 in
set_option maxRecDepth 100000 in
theorem Coded_calls (A : Option Addr) (c : Nat) (p : Prg) (w : World) (hC : Kd.C k72 w A p.length p) (hc : p.length ≤ c) (hp : OKP p) (hz : (codeL p).length ≤ 2000000) :
    Calls Tryz.prog 26 #[.slice A p.length c] w fun e w' => ∃ v, e = .returned (.tuple #[v, .bool true]) ∧ Nd w' (codeT p) v ∧ Below w.heap.size w w' := by
  have hv := refValidp_yes (k := 5000000) (okp_fits hp) (by omega) hp
  have hk := refCoded_yes hp 5000000 (by omega)
  rw [decide_eq_true hz] at hk
  have hT : Plain.IsT (bs (codeL p)).data.toList ∧ (bs (codeL p)).size ≤ 100000000 := ⟨by rw [show (bs (codeL p)).data.toList = codeL p from bl_bs _]; exact isT_codeL (okp_nice hp), by rw [bs_size]; omega⟩
  have HD : Aside0 (dec (bs (codeL p)).data.toList = codeT p) := ⟨by rw [show (bs (codeL p)).data.toList = codeL p from bl_bs _]; exact dec_codeL hp⟩
  have HC := Aside0.mk hC
  have HCC := Aside0.mk hc
  have HV := Aside0.mk hv
  have HK := Aside0.mk hk
  have HT := Aside0.mk hT
  clear hC hc hp hz hv hk hT
  go_enter Tryz.func26, Tryz.ntmps26
  go_wp2_with (first
    | (go_at_call 27; refine (narcissusref02_Valid.calls 5000000 A c p true _ HC.out HCC.out HV.out).mono ?_; rintro e w1 ⟨rfl, hb1⟩; have HB1 := Aside0.mk hb1; clear hb1)
    | (go_at_call 47; refine (narcissusref07_Coded.calls 5000000 A c p (bs (codeL p)) true _ (Kd.C_below HC.out HB1.out) HCC.out HK.out).mono ?_; rintro e w2 ⟨rfl, hb2⟩; have HB2 := Aside0.mk (below_then HB1.out HB1.out.size hb2); clear hb2)
    | (go_at_call 22; refine (Read_calls (bs (codeL p)) _ HT.out.1 HT.out.2).mono ?_; rintro e w3 ⟨u, rfl, hu, hb3⟩; have HU := Aside0.mk hu; have HB3 := Aside0.mk (below_then HB2.out HB2.out.size hb3); clear hu hb3))
  go_ret2
  exact ⟨u, rfl, by rw [← HD.out]; exact HU.out, HB3.out⟩
def narcissuslaw08_awake.f (k : Nat) : Option Bool := if 16000 ≤ k then some true else none
set_option maxHeartbeats 4000000 in
set_option maxRecDepth 100000 in
theorem narcissuslaw08_awake.calls (k : Nat) (r : Bool) (w : World) (hL : LaidW w) (h : narcissuslaw08_awake.f k = some r) :
    Calls Tryz.prog 11 #[] w fun e w' => e = .returned (.bool r) ∧ Below w.heap.size w w' := by
  unfold narcissuslaw08_awake.f at h
  split at h
  case isFalse => cases h
  case isTrue hk =>
  obtain rfl := Option.some.inj h
  obtain ⟨e, he, hp, hz, hrun⟩ : ∃ e, ring_Ring.f k 1 = some ([e], 0) ∧ OKP e ∧ (codeL e).length ≤ 2000000 ∧ runM e .nil 100 = (codeT e, 37, 0) := ⟨_, Plain.awake_is k hk, Plain.one_okp, Plain.one_len, Plain.one_run⟩
  have HE := Aside0.mk he
  have HP := Aside0.mk hp
  have HZ := Aside0.mk hz
  have HRUN := Aside0.mk hrun
  have HL := Aside0.mk hL
  clear h he hp hz hrun hL
  go_enter Tryz.func11, Tryz.ntmps11
  go_wp2_with (first
    | (go_at_call 19; refine (ring_Ring.calls k 1 [e] 0 _ HL.out HE.out).mono ?_; rintro e' w1 ⟨vl, rfl, hs, hb⟩; have hs1 := Kd.S_R hs; obtain ⟨A, c, rfl, hcap, hC⟩ := Kd.R_reads hs1; obtain ⟨ad, A1, c1, rfl, cl, hle, hC1⟩ := at_L3 hC 0 (by omega) (by simp); obtain ⟨g, rfl⟩ := Kd.R_head hs1; rw [show rd_L3 [e] 0 = e from rfl] at cl hle hC1; rw [show (0 : Int).toNat = 0 from rfl, add_plain] at cl; have HC1 := Aside0.mk hC1; have HLE := Aside0.mk hle; have HB := Aside0.mk hb; clear hs hs1 hb hC hC1 hle hcap)
    | (go_at_call 26; refine (Coded_calls A1 c1 e _ HC1.out HLE.out HP.out HZ.out).mono ?_; rintro e' w2 ⟨v2, rfl, hn2, hb2⟩; have HN2 := Aside0.mk hn2; have HB2 := Aside0.mk hb2; have cl2 := pw_cell_below hb2 cl; clear hn2 hb2)
    | (go_at_call 28; refine (Load_calls _ A1 c1 e (Kd.C_below HC1.out HB2.out) HP.out).mono ?_; rintro e' w3 ⟨m3, rfl, hm3, hb3⟩; have HM3 := Aside0.mk hm3; have HB3 := Aside0.mk hb3; clear hm3 hb3)
    | (go_at_call 29; refine (Run_calls _ m3 (.pointer none) e .nil 100 HM3.out rfl (by decide) HP.out (by omega)).mono ?_; rw [HRUN.out]; rintro e' w4 ⟨v4, rfl, hn4, hb4⟩; have HN4 := Aside0.mk hn4; have HB4 := Aside0.mk hb4; clear hn4 hb4)
    | (go_at_call 30; refine (Equal_calls (codeT e) (codeT e) v4 v2 _ HN4.out (Nd.keep (NK.trans (NK.below HB3.out) (NK.below HB4.out)) _ _ HN2.out) (by rw [codeT_size HP.out]; have := HZ.out; omega) (by rw [codeT_size HP.out]; have := HZ.out; omega)).mono ?_; rintro e' w5 ⟨⟨v5, rfl, hv5⟩, hb5⟩; obtain rfl := hv5.2 rfl; have HB5 := Aside0.mk hb5; clear hb5 hv5))
  go_ret
  exact ⟨rfl, below_then (below_then (below_then (below_then HB.out HB.out.size HB2.out) (Nat.le_trans HB.out.size HB2.out.size) HB3.out) (Nat.le_trans HB.out.size (Nat.le_trans HB2.out.size HB3.out.size)) HB4.out) (Nat.le_trans HB.out.size (Nat.le_trans HB2.out.size (Nat.le_trans HB3.out.size HB4.out.size))) HB5.out⟩
end Go.Proofs.YtocoamgbpoommaaGreatDoor.C
end
section
namespace Go.Proofs.YtocoamgbpoommaaGreatDoor.C
open Go.RowKit Go.Proofs.YtocoamgbpoommaaGreatDoorW.PrintWords Go.Proofs.YtocoamgbpoommaaGreatDoorW.PrintLast Go.Proofs.YtocoamgbpoommaaGreatDoorW.PrintMore
open Go.Proofs.YtocoamgbpoommaaGreatDoor.Plain (Tr OKP codeL codeT codeT_size lstT)
set_option linter.unusedVariables false
set_option linter.unusedSimpArgs false
theorem lstT_size {b : Nat} : ∀ l : List Tr, (∀ t ∈ l, t.size ≤ b) → (lstT l).size ≤ l.length * (b + 1) + 1
  | [], _ => by simp [lstT, Tr.size]
  | t :: l, h => by
    have ih := lstT_size l fun x hx => h x (List.mem_cons_of_mem _ hx)
    have h1 := h t List.mem_cons_self
    have e : (lstT (t :: l)).size = 1 + t.size + (lstT l).size := rfl
    rw [e, List.length_cons, Nat.succ_mul]
    omega
end Go.Proofs.YtocoamgbpoommaaGreatDoor.C
end
section
namespace Go.Proofs.YtocoamgbpoommaaGreatDoor.C
open Go.RowKit Go.Proofs.YtocoamgbpoommaaGreatDoorW.PrintWords Go.Proofs.YtocoamgbpoommaaGreatDoorW.PrintLast Go.Proofs.YtocoamgbpoommaaGreatDoorW.PrintMore
open Go.Proofs.YtocoamgbpoommaaGreatDoor.Plain (Tr dec bl OKP codeL codeT codeT_size lstT runM ValidT Fine turns ring_tells together_yes okp_turns turns_length refValid_tells okp_fits refValidp_yes tmod_nat)
set_option linter.unusedVariables false
set_option linter.unusedSimpArgs false
theorem awake_calls (w : World) (hL : LaidW w) : Calls Tryz.prog 11 #[] w fun e w' => e = .returned (.bool true) ∧ Below w.heap.size w w' :=
  narcissuslaw08_awake.calls 16000 true w hL rfl
abbrev Yes (w : World) (e : Ending) (w' : World) : Prop := e = .returned (.bool true) ∧ Below w.heap.size w w'
end Go.Proofs.YtocoamgbpoommaaGreatDoor.C
end
section
namespace Go.Proofs.YtocoamgbpoommaaGreatDoor.C
open Go.RowKit Go.Proofs.YtocoamgbpoommaaGreatDoorW.PrintWords Go.Proofs.YtocoamgbpoommaaGreatDoorW.PrintLast Go.Proofs.YtocoamgbpoommaaGreatDoorW.PrintMore
attribute [local go_sem] max2_int min2_int max_two min_two max_three min_three max_four min_four
set_option linter.unusedVariables false
set_option linter.unusedSimpArgs false
def narcissusref07_Small.l0 : Nat → Int → List (List (S72)) → Int → Int → Option (Bool)
 | 0, _, _, _, _ => none
 | k + 1, x0, x1, x5, x6 => if x6 < (x1.length : Int) then (if 0 ≤ x6 then (if (wrap64 ((wrap64 (x5 + 1)) + ((rd_L3 x1 x6).length : Int))) > x0 then (some false) else ((narcissusref02_Trees.f k (rd_L3 x1 x6)).bind fun t3 => (narcissusref07_Small.l0 k x0 x1 (wrap64 ((wrap64 ((wrap64 (x5 + 1)) + ((rd_L3 x1 x6).length : Int))) + t3)) (wrap64 (x6 + 1))))) else (none)) else (some (decide (x5 ≤ x0)))
def narcissusref07_Small.f (k : Nat) (a0 : Int) (l1 : List (List (S72))) : Option (Bool) := narcissusref07_Small.l0 k a0 l1 0 0
set_option maxHeartbeats 8000000 in
set_option maxRecDepth 100000 in
theorem narcissusref07_Small.calls (k : Nat) (a0 : Int) (A1 : Option Addr) (c1 : Nat) (l1 : List (List (S72))) (r : Bool) (w : World) (hr1 : Kd.C (Kd.slice 72 k72) w A1 l1.length l1) (hc1 : l1.length ≤ c1) (h : narcissusref07_Small.f k a0 l1 = some r) :
  Calls Tryz.prog 10 #[.int .i64 a0, .slice A1 l1.length c1] w fun e w' => e = .returned (.bool r) ∧ Drawn0 w w' := by
 have HR1 := Aside0.mk hr1
 have HC1 := Aside0.mk hc1
 clear hr1 hc1
 have H : (narcissusref07_Small.l0 k a0 l1 0 0) = some r := h
 clear h
 have H' := Aside0.mk H
 clear H
 go_enter Tryz.func10, Tryz.ntmps10
 go_wp2
 go_loopg [5, 6] k (fun kq v5 v6 w' => ∃ (x5_1 : Int) (x6_1 : Int), v5 = .int .i64 x5_1 ∧ v6 = .int .i64 x6_1 ∧ Aside0 (narcissusref07_Small.l0 kq a0 l1 x5_1 x6_1 = some r) ∧ Aside0 (kq ≤ k) ∧ Drawn0 w w')
 case atStart => exact ⟨(0), (0), (by first | rfl | (simp; done) | (simp [*]; done)), (by first | rfl | (simp; done) | (simp [*]; done)), H', ⟨Nat.le_refl _⟩, by repeat (first | exact Drawn0.refl _ | apply Drawn0.step)⟩
 case round =>
  clear H'
  try clear c1
  try clear p2
  obtain ⟨x5_1, x6_1, rfl, rfl, HA, HK1, ⟨m1, rfl⟩⟩ := hrel
  cases gk with
  | zero => exact absurd HA.out (by simp [narcissusref07_Small.l0])
  | succ k1 =>
   have H := HA.out
   clear HA
   simp only [narcissusref07_Small.l0] at H
   by_cases c3 : x6_1 < (l1.length : Int)
   ·rw [if_pos c3] at H
    have c3b0 : decide (x6_1 < (l1.length : Int)) = true := decide_eq_true c3
    clear c3
    by_cases c4 : 0 ≤ x6_1
    ·rw [if_pos c4] at H
     have c4b0 : decide (0 ≤ x6_1) = true := decide_eq_true c4
     clear c4
     by_cases c5 : (wrap64 ((wrap64 (x5_1 + 1)) + ((rd_L3 l1 x6_1).length : Int))) > a0
     ·rw [if_pos c5] at H
      have c5b0 : decide (a0 < (wrap64 ((wrap64 (x5_1 + 1)) + ((rd_L3 l1 x6_1).length : Int)))) = true := decide_eq_true c5
      clear c5
      obtain rfl := Option.some.inj H
      have p1 : 0 ≤ (x6_1 : Int) := of_decide_eq_true (by first | (with_reducible assumption) | assumption)
      have q1 : x6_1 < (l1.length : Int) := of_decide_eq_true (by first | (with_reducible assumption) | assumption)
      obtain ⟨ad1, A1_0, c1_0, e1, hx1_0, hl1_0, hi1_0⟩ := at_L3 HR1.out x6_1 p1 q1
      cases e1
      have HR1_0 := Aside0.mk hi1_0
      have HC1_0 := Aside0.mk hl1_0
      clear hi1_0 hl1_0
      replace p1 := eq_true p1
      replace q1 := eq_true q1
      go_wp2
      go_ret
      exact ⟨by first | rfl | (simp; done) | (simp [*]; done) | (simp [show ∀ l : List UInt8, (l != []) = !l.isEmpty from fun l => by cases l <;> rfl]; done), by repeat (first | exact Drawn0.refl _ | apply Drawn0.step)⟩
     ·rw [if_neg c5] at H
      have c5b0 : decide (a0 < (wrap64 ((wrap64 (x5_1 + 1)) + ((rd_L3 l1 x6_1).length : Int)))) = false := decide_eq_false c5
      clear c5
      replace H := Option.bind_eq_some_iff.mp H
      obtain ⟨t3, A60, H⟩ := H
      replace H : (narcissusref07_Small.l0 k1 a0 l1 (wrap64 ((wrap64 ((wrap64 (x5_1 + 1)) + ((rd_L3 l1 x6_1).length : Int))) + t3)) (wrap64 (x6_1 + 1))) = some r := H
      have A6 := Aside0.mk A60
      clear A60
      have H' := Aside0.mk H
      clear H
      have p1 : 0 ≤ (x6_1 : Int) := of_decide_eq_true (by first | (with_reducible assumption) | assumption)
      have q1 : x6_1 < (l1.length : Int) := of_decide_eq_true (by first | (with_reducible assumption) | assumption)
      obtain ⟨ad1, A1_0, c1_0, e1, hx1_0, hl1_0, hi1_0⟩ := at_L3 HR1.out x6_1 p1 q1
      cases e1
      have HR1_0 := Aside0.mk hi1_0
      have HC1_0 := Aside0.mk hl1_0
      clear hi1_0 hl1_0
      replace p1 := eq_true p1
      replace q1 := eq_true q1
      have p2 : 0 ≤ (x6_1 : Int) := of_decide_eq_true (by first | (with_reducible assumption) | assumption)
      have q2 : x6_1 < (l1.length : Int) := of_decide_eq_true (by first | (with_reducible assumption) | assumption)
      obtain ⟨ad2, A2_0, c2_0, e2, hx2_0, hl2_0, hi2_0⟩ := at_L3 HR1.out x6_1 p2 q2
      obtain rfl : ad1 = ad2 := (by injection e2)
      have HR2_0 := Aside0.mk hi2_0
      have HC2_0 := Aside0.mk hl2_0
      clear hi2_0 hl2_0
      replace p2 := eq_true p2
      replace q2 := eq_true q2
      have ea_ := Option.some.inj (hx1_0.symm.trans hx2_0)
      injection ea_ with ea_ en_ ec_
      subst ea_
      subst ec_
      clear en_
      go_wp2_with (first | ((with_reducible refine gate_callee (f := 36) rfl ?_); refine goesL_ (some 29) rfl rfl Tryz.func36 (by kernel_rfl) rfl #[.slice A1_0 (rd_L3 l1 x6_1).length c1_0] rfl (by (try simp only [List.map_toArray, List.map_cons, List.map_nil]); first | done | rfl | (simp only [List.length_drop, List.length_take]; rfl)) ?_; (with_reducible refine (narcissusref02_Trees.calls k1 _ _ (rd_L3 l1 x6_1) t3 _ ?side1 ?side2 A6.out).mono ?_); (case side1 => repeat (first | exact HR2_0.out | (with_reducible refine Kd.C_alloc ?_ _) | (with_reducible refine Kd.C_drewN ?_ _) | (with_reducible refine Kd.C_drew ?_))); (case side2 => exact HC2_0.out); rintro e w' ⟨rfl, ⟨nd, rfl⟩⟩; refine ⟨_, rfl, ?_⟩))
      go_roundg k1
      case measure => have := HK1.out; omega
      case rel => exact ⟨(wrap64 ((wrap64 ((wrap64 (x5_1 + 1)) + ((rd_L3 l1 x6_1).length : Int))) + t3)), (wrap64 (x6_1 + 1)), (by first | rfl | (simp; done) | (simp [*]; done)), (by first | rfl | (simp; done) | (simp [*]; done)), H', ⟨by have := HK1.out; omega⟩, by repeat (first | exact Drawn0.refl _ | apply Drawn0.step)⟩
    ·rw [if_neg c4] at H
     exact absurd H (by simp)
   ·rw [if_neg c3] at H
    have c3b0 : decide (x6_1 < (l1.length : Int)) = false := decide_eq_false c3
    clear c3
    obtain rfl := Option.some.inj H
    go_wp2
    go_ret
    exact ⟨by first | rfl | (simp; done) | (simp [*]; done) | (simp [show ∀ l : List UInt8, (l != []) = !l.isEmpty from fun l => by cases l <;> rfl]; done), by repeat (first | exact Drawn0.refl _ | apply Drawn0.step)⟩
end Go.Proofs.YtocoamgbpoommaaGreatDoor.C
end
section
namespace Go.Proofs.YtocoamgbpoommaaGreatDoor.C
open Go.RowKit Go.Proofs.YtocoamgbpoommaaGreatDoorW.PrintWords Go.Proofs.YtocoamgbpoommaaGreatDoorW.PrintLast Go.Proofs.YtocoamgbpoommaaGreatDoorW.PrintMore
set_option linter.unusedVariables false
set_option linter.unusedSimpArgs false
def RowI (w : World) (base : Nat) (A : Option Addr) (n : Nat) : Prop := n = 0 ∨ ∃ h cells, A = some ⟨h, 0, none⟩ ∧ base ≤ h ∧ w.heap[h]? = some (.cells cells 72 (0, 0)) ∧ n * 5 ≤ cells.size
def RowsI (w : World) (base : Nat) (cur : Array Value) (ls : List Nat) : Prop := ∀ i (h : i < ls.length), ∃ A c, cur[i]? = some (.slice A ls[i] c) ∧ RowI w base A ls[i]
theorem RowI.of_R {w : World} {base : Nat} {ok : Nat → Prop} {v : Value} {p : Prg} (h : Kd.R k72 72 w base ok v p) : ∃ A c, v = .slice A p.length c ∧ RowI w base A p.length := by
  obtain ⟨_, inner, ho, _⟩ := h
  obtain ⟨h1, h2⟩ := ho
  rcases h2 with ⟨rfl, hn⟩ | ⟨g, cap, cur, rfl, hg, hh, hc, _, hs, _⟩
  · rw [hn]; exact ⟨none, 0, rfl, .inl rfl⟩
  · refine ⟨_, cap, rfl, .inr ⟨g, cur, rfl, hg, hh, ?_⟩⟩
    rw [hs]
    exact Nat.mul_le_mul_right _ hc
theorem RowI.set {w : World} {base h : Nat} {cells : Array Value} {A : Option Addr} {n : Nat} (hr : RowI w base A n) (hh : w.heap[h]? = some (.cells cells 72 (0, 0))) (j : Nat) (u : Value) : RowI (w.setCell ⟨h, j, none⟩ u) base A n := by
  rcases hr with h0 | ⟨h', cells', rfl, h1, h2, h3⟩
  · exact .inl h0
  · by_cases e : h' = h
    · subst e
      exact .inr ⟨h', _, rfl, h1, blk_set h2 j u, by simpa using h3⟩
    · exact .inr ⟨h', _, rfl, h1, blk_far h2 (p := ⟨h, j, none⟩) e u, h3⟩
theorem RowsI.set {w : World} {base h : Nat} {cells cur : Array Value} {ls : List Nat} (hr : RowsI w base cur ls) (hh : w.heap[h]? = some (.cells cells 72 (0, 0))) (j : Nat) (u : Value) : RowsI (w.setCell ⟨h, j, none⟩ u) base cur ls := fun i hi => by
  obtain ⟨A, c, h1, h2⟩ := hr i hi
  exact ⟨A, c, h1, h2.set hh j u⟩
theorem RowsI.set5 {w : World} {base h : Nat} {cells cur : Array Value} {ls : List Nat} (hr : RowsI w base cur ls) (hh : w.heap[h]? = some (.cells cells 72 (0, 0))) (j0 j1 j2 j3 j4 : Nat) (u0 u1 u2 u3 u4 : Value) :
    RowsI (((((w.setCell ⟨h, j0, none⟩ u0).setCell ⟨h, j1, none⟩ u1).setCell ⟨h, j2, none⟩ u2).setCell ⟨h, j3, none⟩ u3).setCell ⟨h, j4, none⟩ u4) base cur ls := by
  have b0 := blk_set hh j0 u0
  have b1 := blk_set b0 j1 u1
  have b2 := blk_set b1 j2 u2
  have b3 := blk_set b2 j3 u3
  exact ((((hr.set hh j0 u0).set b0 j1 u1).set b1 j2 u2).set b2 j3 u3).set b3 j4 u4
set_option maxHeartbeats 2000000 in
set_option maxRecDepth 100000 in
theorem spoil_go (g cap base : Nat) (cur : Array Value) (ls : List Nat) (w : World) (hg : base ≤ g) (hh : w.heap[g]? = some (.cells cur 47 (0, 0))) (hr : RowsI w base cur ls) (hl : ls.length ≤ 1000000) (hz : ∀ n ∈ ls, n ≤ 1000000) :
    Calls Tryz.prog 17 #[.slice (some ⟨g, 0, none⟩) ls.length cap] w fun e w' => e = .returned (.tuple #[]) ∧ Below base w w' := by
  obtain ⟨m, hm⟩ : ∃ m, ls.length = m := ⟨_, rfl⟩
  rw [hm] at hl ⊢
  have HG := Aside0.mk hg
  have HZ := Aside0.mk hz
  have HM := Aside0.mk hm
  have HH := Aside0.mk hh
  have HR := Aside0.mk hr
  clear hg hh hr hz hm
  go_enter Tryz.func17, Tryz.ntmps17
  go_wp2
  go_loopg [2] (m + 1) (fun kq v2 wr => ∃ i : Nat, v2 = .int .i64 i ∧ i ≤ m ∧ Aside0 (kq = m - i + 1) ∧ Aside0 (Below base w wr) ∧ Aside0 (wr.heap[g]? = some (.cells cur 47 (0, 0))) ∧ Aside0 (RowsI wr base cur ls))
  case atStart => exact ⟨0, rfl, Nat.zero_le _, ⟨by omega⟩, ⟨Below.refl _ _⟩, HH, HR⟩
  case round =>
    clear HH HR
    obtain ⟨i, rfl, hi, HI, HB, HH, HR⟩ := hrel
    by_cases hlt : i < m
    · obtain ⟨A, c, hc, hrow⟩ := HR.out i (by rw [HM.out]; exact hlt)
      have b2 : (i : Int) < (m : Int) := by omega
      have b3 : (0 : Int) ≤ (i : Int) := by omega
      obtain ⟨n, hn⟩ : ∃ n, n = ls[i]'(by rw [HM.out]; exact hlt) := ⟨_, rfl⟩
      have hnz : n ≤ 1000000 := by rw [hn]; exact HZ.out _ (List.getElem_mem _)
      rw [← hn] at hc hrow
      have HN := Aside0.mk hn
      obtain ⟨k2, rfl⟩ : ∃ k2, gk = k2 + 1 := ⟨gk - 1, by have := HI.out; omega⟩
      clear hn hrow
      go_wp2
      go_loopg [3] (n + 1) (fun kq v3 wq => ∃ k : Nat, v3 = .int .i64 k ∧ k ≤ n ∧ Aside0 (kq = n - k + 1) ∧ Aside0 (Below base w wq) ∧ Aside0 (wq.heap[g]? = some (.cells cur 47 (0, 0))) ∧ Aside0 (RowsI wq base cur ls))
      case atStart => exact ⟨0, rfl, Nat.zero_le _, ⟨by omega⟩, HB, HH, HR⟩
      case round =>
        clear HB HH HR
        obtain ⟨k, rfl, hk, HK, HB, HH, HR⟩ := hrel
        have cl := (blk_cell HH.out i).trans hc
        by_cases hkn : k < n
        · have b4 : (k : Int) < (n : Int) := by omega
          have b5 : (0 : Int) ≤ (k : Int) := by omega
          obtain ⟨A', c', hc', hrow⟩ := HR.out i (by rw [HM.out]; exact hlt)
          rw [← HN.out] at hc' hrow
          rw [hc] at hc'
          injection hc' with hc'
          injection hc' with e1 e2 e3
          subst e1
          rcases hrow with h0 | ⟨h, cells, rfl, hbh, hhc, hsz⟩
          · omega
          have hin : ∀ j, j < 5 → wr.cell? ⟨h, k * 5 + j, none⟩ = some (cells.getD (k * 5 + j) (.bool false)) := fun j hj => by
            have hlt' : k * 5 + j < cells.size := by omega
            rw [blk_cell hhc, Array.getElem?_eq_getElem hlt', Array.getD_eq_getD_getElem?, Array.getElem?_eq_getElem hlt']
            rfl
          have d0 := hin 0 (by omega)
          have d1 := hin 1 (by omega)
          have d2 := hin 2 (by omega)
          have d3 := hin 3 (by omega)
          have d4 := hin 4 (by omega)
          rw [Nat.add_zero] at d0
          have f0 := blk_frozen hhc (k * 5)
          have f1 := blk_frozen hhc (k * 5 + 1)
          have f2 := blk_frozen hhc (k * 5 + 2)
          have f3 := blk_frozen hhc (k * 5 + 3)
          have f4 := blk_frozen hhc (k * 5 + 4)
          have HBH := Aside0.mk hbh
          have HHC := Aside0.mk hhc
          clear hbh hhc hsz hin
          go_wp2
          obtain ⟨k3, rfl⟩ : ∃ k3, gk = k3 + 1 := ⟨gk - 1, by have := HK.out; omega⟩
          go_roundg k3
          case measure => omega
          case rel =>
            have hne : g ≠ h := fun e => by
              subst e
              have h1 := HH.out
              rw [HHC.out] at h1
              injection h1 with h1
              injection h1 with _ h1
              exact absurd h1 (by decide)
            exact ⟨k + 1, by go_num, by omega, ⟨by have := HK.out; omega⟩,
              ⟨((((HB.out.setCell (p := ⟨h, k * 5, none⟩) HBH.out _).setCell (p := ⟨h, k * 5 + 1, none⟩) HBH.out _).setCell (p := ⟨h, k * 5 + 2, none⟩) HBH.out _).setCell (p := ⟨h, k * 5 + 3, none⟩) HBH.out _).setCell (p := ⟨h, k * 5 + 4, none⟩) HBH.out _⟩,
              ⟨blk_far (blk_far (blk_far (blk_far (blk_far HH.out (p := ⟨h, k * 5, none⟩) hne _) (p := ⟨h, k * 5 + 1, none⟩) hne _) (p := ⟨h, k * 5 + 2, none⟩) hne _) (p := ⟨h, k * 5 + 3, none⟩) hne _) (p := ⟨h, k * 5 + 4, none⟩) hne _⟩,
              ⟨HR.out.set5 HHC.out _ _ _ _ _ _ _ _ _ _⟩⟩
        · obtain rfl : k = n := by omega
          go_wp2
          go_roundg k2
          case measure => omega
          case rel => exact ⟨i + 1, by go_num, by omega, ⟨by have := HI.out; omega⟩, HB, HH, HR⟩
    · obtain rfl : i = m := by omega
      go_wp2
      exact ⟨rfl, .tuple #[], by simp [results, Tryz.results17, go_sem], rfl, HB.out⟩
set_option maxHeartbeats 1000000 in
theorem spoil_nil (w : World) : Calls Tryz.prog 17 #[.slice none 0 0] w fun e w' => e = .returned (.tuple #[]) ∧ w = w' := by
  go_enter Tryz.func17, Tryz.ntmps17
  go_wp2
  go_loopg [2] 1 (fun kq v2 wr => v2 = .int .i64 0 ∧ wr = w)
  case atStart => exact ⟨rfl, rfl⟩
  case round =>
    obtain ⟨rfl, rfl⟩ := hrel
    go_wp2
    exact ⟨rfl, .tuple #[], by simp [results, Tryz.results17, go_sem], rfl, rfl⟩
def Spo (w : World) (base : Nat) (v : Value) (L : List Prg) : Prop :=
  (v = .slice none 0 0 ∧ L = []) ∨ ∃ g cap cur, v = .slice (some ⟨g, 0, none⟩) L.length cap ∧ base ≤ g ∧ w.heap[g]? = some (.cells cur 47 (0, 0)) ∧ RowsI w base cur (L.map List.length)
theorem RowsI.below {w w' : World} {base : Nat} {cur : Array Value} {ls : List Nat} (h : RowsI w base cur ls) (hb : Below w.heap.size w w') : RowsI w' base cur ls := fun i hi => by
  obtain ⟨A, c, h1, h2⟩ := h i hi
  refine ⟨A, c, h1, ?_⟩
  rcases h2 with h0 | ⟨h', cells', rfl, h1, h2, h3⟩
  · exact .inl h0
  · exact .inr ⟨h', _, rfl, h1, (hb.block _ (blk_lt h2)).trans h2, h3⟩
theorem Spo.below {w w' : World} {base : Nat} {v : Value} {L : List Prg} (h : Spo w base v L) (hb : Below w.heap.size w w') : Spo w' base v L := by
  rcases h with h | ⟨g, cap, cur, rfl, hg, hh, hr⟩
  · exact .inl h
  · exact .inr ⟨g, cap, cur, rfl, hg, (hb.block _ (blk_lt hh)).trans hh, hr.below hb⟩
theorem spoil_calls (v : Value) (L : List Prg) (w : World) (base : Nat) (h : Spo w base v L) (hl : L.length ≤ 1000000) (hz : ∀ p ∈ L, p.length ≤ 1000000) :
    Calls Tryz.prog 17 #[v] w fun e w' => e = .returned (.tuple #[]) ∧ Below base w w' := by
  rcases h with ⟨rfl, rfl⟩ | ⟨g, cap, cur, rfl, hg, hh, hr⟩
  · refine (spoil_nil w).mono ?_
    rintro e w' ⟨rfl, rfl⟩
    exact ⟨rfl, Below.refl _ _⟩
  · have := spoil_go g cap base cur (L.map List.length) w hg hh hr (by rw [List.length_map]; exact hl) (fun n hn => by obtain ⟨p, hp, rfl⟩ := List.mem_map.1 hn; exact hz p hp)
    rw [List.length_map] at this
    exact this
section
variable {m : Nat} {A : Option Addr} {c : Nat} {l : List Prg} {w : World} (hn : l.length = m) (hC : Kd.C (Kd.slice 72 k72) w A m l) (hc : m ≤ c) {k : Nat}
include hn hC hc
theorem tg_small {v : Bool} {most : Int} (h : narcissusref07_Small.f k most l = some v) : Calls Tryz.prog 10 #[.int .i64 most, .slice A m c] w fun e w' => e = .returned (.bool v) ∧ Drawn0 w w' := by
  subst hn; exact narcissusref07_Small.calls k most A c l v w hC hc h
end
end Go.Proofs.YtocoamgbpoommaaGreatDoor.C
end
section
namespace Go.Proofs.YtocoamgbpoommaaGreatDoor.Plain
open Go.Proofs.YtocoamgbpoommaaGreatDoor.C
open Go.RowKit Go.Proofs.YtocoamgbpoommaaGreatDoorW.PrintWords Go.Proofs.YtocoamgbpoommaaGreatDoorW.PrintLast Go.Proofs.YtocoamgbpoommaaGreatDoorW.PrintMore
set_option linter.unusedVariables false
set_option linter.unusedSimpArgs false
def later (m : Nat) (q : Tr × Nat × Int) : Tr × Nat × Int := (q.1, if q.2.2 = 0 then q.2.1 + m else 0, q.2.2)
end Go.Proofs.YtocoamgbpoommaaGreatDoor.Plain
end
section
namespace Go.Proofs.YtocoamgbpoommaaGreatDoor.Plain
open Go.Proofs.YtocoamgbpoommaaGreatDoor.C
open Go.RowKit Go.Proofs.YtocoamgbpoommaaGreatDoorW.PrintWords Go.Proofs.YtocoamgbpoommaaGreatDoorW.PrintLast Go.Proofs.YtocoamgbpoommaaGreatDoorW.PrintMore
set_option linter.unusedVariables false
set_option linter.unusedSimpArgs false
theorem trees_any (p : List Ins) (hp : p.length ≤ 2932031007402) : ∀ (d k i : Nat) (s : Int), p.length - i = d → i ≤ p.length → d < k → ∃ v, narcissusref02_Trees.l0 k p s (i : Int) = some v
  | d, k, i, s, hd, hi, hk => by
    obtain ⟨k, rfl⟩ : ∃ m, k = m + 1 := ⟨k - 1, by omega⟩
    rw [narcissusref02_Trees.l0]
    by_cases h : i < p.length
    · rw [if_pos (by omega), if_pos (by omega), wrap_small (x := (i : Int) + 1) (by omega) (by omega), show (i : Int) + 1 = ((i + 1 : Nat) : Int) from rfl]
      exact trees_any p hp (p.length - (i + 1)) k (i + 1) _ rfl (by omega) (by omega)
    · rw [if_neg (by omega)]; exact ⟨_, rfl⟩
  termination_by d => d
theorem small_any (most : Int) (l : List (List Ins)) (hl : l.length ≤ 1000) (hz : ∀ p ∈ l, p.length ≤ 2932031007401) : ∀ (d k i : Nat) (s : Int), l.length - i = d → i ≤ l.length → d + 2932031007402 < k →
    ∃ v, narcissusref07_Small.l0 k most l s (i : Int) = some v
  | d, k, i, s, hd, hi, hk => by
    obtain ⟨k, rfl⟩ : ∃ m, k = m + 1 := ⟨k - 1, by omega⟩
    rw [narcissusref07_Small.l0]
    by_cases h : i < l.length
    · rw [if_pos (by omega), if_pos (by omega), rd_prg l i h]
      have hzi := hz l[i] (List.getElem_mem h)
      split
      · exact ⟨_, rfl⟩
      · obtain ⟨v, e⟩ : ∃ v, narcissusref02_Trees.f k l[i] = some v := trees_any l[i] (by omega) l[i].length k 0 0 rfl (by omega) (by omega)
        rw [e, Option.bind_some, wrap_small (x := (i : Int) + 1) (by omega) (by omega), show (i : Int) + 1 = ((i + 1 : Nat) : Int) from rfl]
        exact small_any most l hl hz (l.length - (i + 1)) k (i + 1) _ rfl (by omega) (by omega)
    · rw [if_neg (by omega)]; exact ⟨_, rfl⟩
  termination_by d => d
theorem small_has (most : Int) (l : List (List Ins)) (hl : l.length ≤ 1000) (hz : ∀ p ∈ l, p.length ≤ 2932031007401) (k : Nat) (hk : 2932031010000 ≤ k) : ∃ v, narcissusref07_Small.f k most l = some v :=
  small_any most l hl hz l.length k 0 0 rfl (by omega) (by omega)
end Go.Proofs.YtocoamgbpoommaaGreatDoor.Plain
end
section
namespace Go.Proofs.YtocoamgbpoommaaGreatDoor.Plain
open Go.Proofs.YtocoamgbpoommaaGreatDoor.C
set_option linter.unusedVariables false
set_option linter.unusedSimpArgs false
def knowHead : List Ins := [⟨3, 2, 0, 0, ⟨#[]⟩⟩, ⟨4, 3, 0, 0, ⟨#[]⟩⟩, ⟨0, 4, 0, 0, ⟨#[49, 48, 48]⟩⟩, ⟨2, 4, 4, 2, ⟨#[]⟩⟩, ⟨2, 4, 1, 4, ⟨#[]⟩⟩, ⟨0, 5, 0, 0, ⟨#[49, 48, 49, 49, 48, 48, 48]⟩⟩, ⟨2, 5, 5, 2, ⟨#[]⟩⟩,
  ⟨0, 6, 0, 0, ⟨#[49, 49, 48, 49, 48, 48, 49, 48, 49, 49, 48, 48, 48]⟩⟩, ⟨2, 5, 6, 5, ⟨#[]⟩⟩, ⟨2, 5, 4, 5, ⟨#[]⟩⟩, ⟨2, 0, 5, 3, ⟨#[]⟩⟩,
  ⟨0, 2, 0, 0, ⟨#[48]⟩⟩, ⟨0, 3, 0, 0, ⟨#[48]⟩⟩, ⟨0, 4, 0, 0, ⟨#[48]⟩⟩, ⟨0, 5, 0, 0, ⟨#[48]⟩⟩, ⟨0, 6, 0, 0, ⟨#[48]⟩⟩]
end Go.Proofs.YtocoamgbpoommaaGreatDoor.Plain
end
