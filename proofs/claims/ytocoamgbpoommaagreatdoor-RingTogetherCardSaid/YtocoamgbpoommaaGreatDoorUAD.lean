/- Texts of this claim, together: what the functions return, and what they say in plain words. -/
import Derived.Test.YtocoamgbpoommaaGreatDoorUAC
import Derived.Test.YtocoamgbpoommaaGreatDoorUL
section
/- The chapter's first example in plain words: the ring of one program returns its own code. -/
namespace Go.Proofs.YtocoamgbpoommaaGreatDoor.Plain
open Go.Proofs.YtocoamgbpoommaaGreatDoor.C
open Go.RowKit Go.Proofs.YtocoamgbpoommaaGreatDoorW.PrintWords Go.Proofs.YtocoamgbpoommaaGreatDoorW.PrintLast Go.Proofs.YtocoamgbpoommaaGreatDoorW.PrintMore
set_option linter.unusedVariables false
set_option linter.unusedSimpArgs false

theorem dec_codeL {p : List Ins} (h : OKP p) : dec (codeL p) = codeT p := by rw [← codeT_enc (okp_nice h), dec_enc]
theorem codeT_size {p : List Ins} (h : OKP p) : (codeT p).size = (codeL p).length := by rw [← Tr.enc_length, codeT_enc (okp_nice h)]
theorem turns_one : turns 1 = [[iHead, iHead]] := rfl
theorem sizes_spec (y : ByteArray) : sizes (specHead y) = y.size + 1 := rfl
/-- The one program of the least ring. -/
def ringOne : List Ins := specHead (bs (tabL (behind (turns 1)))) ++ ringHead ++ [iHead, iHead]
theorem made_one : madeL (behind (turns 1)) = [ringOne] := by
  rw [turns_one]
  simp [madeL, behind, ringOne, turns_one]
set_option maxRecDepth 100000 in
theorem one_code : (codeL (ringHead ++ [iHead, iHead])).length ≤ 5000 := by decide +kernel
theorem one_tab : (tabL (behind (turns 1))).length ≤ 5002 := by
  rw [tabL_length, turns_one]
  have := one_code
  simp only [behind, List.map_cons, List.map_nil, lsum]
  omega
theorem one_good : GoodL (behind (turns 1)) := by
  have hc := one_code
  rw [turns_one]
  refine ⟨fun e he => ?_, ?_⟩
  · simp only [behind, List.map_cons, List.map_nil, List.mem_singleton] at he
    subst he
    exact okp_iff.2 ⟨by decide, by decide +kernel, vi_append vi_ringHead (vi_turn 1 0)⟩
  · simp only [behind, List.map_cons, List.map_nil, lsum]
    omega
theorem one_okp : OKP ringOne := by
  have hv : VI ringOne := by
    unfold ringOne
    rw [List.append_assoc]
    exact vi_append (vi_specHead (validT_tab one_good)) (vi_append vi_ringHead (vi_turn 1 0))
  refine okp_iff.2 ⟨by decide, ?_, hv⟩
  have h1 : sizes ringOne = sizes (specHead (bs (tabL (behind (turns 1))))) + sizes (ringHead ++ [iHead, iHead]) := by
    unfold ringOne sizes
    rw [List.append_assoc, List.map_append, List.sum_append]
  have h2 : sizes (ringHead ++ [iHead, iHead]) ≤ 1000 := by decide +kernel
  have h3 : sizes (specHead (bs (tabL (behind (turns 1))))) = (tabL (behind (turns 1))).length + 1 := by
    rw [sizes_spec, bs_size]
  have := one_tab
  omega
theorem one_codeT : codeT ringOne = cellT (dec (tabL (behind (turns 1)))) (codeT (ringHead ++ [iHead, iHead])) := by
  unfold ringOne
  rw [List.append_assoc, codeT_spec, bl_bs]
theorem one_size : (codeT ringOne).size ≤ 11000 := by
  have h1 := one_tab
  have h2 := one_code
  have hT : IsT (tabL (behind (turns 1))) := by have := (validT_tab one_good).2; rwa [bl_bs] at this
  have h3 : (dec (tabL (behind (turns 1)))).size = (tabL (behind (turns 1))).length := by rw [← Tr.enc_length, enc_dec hT]
  have hr : OKP (ringHead ++ [iHead, iHead]) := one_good.1 _ (by rw [turns_one]; exact List.mem_singleton.2 rfl)
  have h4 := codeT_size hr
  rw [one_codeT]
  generalize dec (tabL (behind (turns 1))) = Y at *
  generalize codeT (ringHead ++ [iHead, iHead]) = c at *
  show 1 + (1 + 1 + (1 + 3 + Y.size)) + (1 + 13 + (1 + 7 + c.size)) ≤ 11000
  omega
theorem one_len : (codeL ringOne).length ≤ 2000000 := by
  rw [← codeT_size one_okp]
  have := one_size
  omega
theorem one_fine : Fine (turns 1) := by
  refine ⟨one_good, ?_, ?_⟩
  · intro e he
    rw [made_one] at he
    rw [List.mem_singleton.1 he]
    exact one_okp
  · rw [made_one]
    have := one_size
    rw [codeT_size one_okp] at this
    simp only [lsum]
    omega
theorem one_run : runM ringOne .nil 100 = (codeT ringOne, 37, 0) := by
  have hn : ∀ p ∈ turns 1, ∀ x ∈ ringHead ++ p, Nice x := fun p hp => okp_nice (one_good.1 _ (List.mem_map.2 ⟨p, hp, rfl⟩))
  have hm : [iHead, iHead] ∈ turns 1 := by rw [turns_one]; exact List.mem_singleton.2 rfl
  have hall : (madeL ((turns 1).map fun p => ringHead ++ p)).map codeT = [codeT ringOne] := by
    rw [show (turns 1).map (fun p => ringHead ++ p) = behind (turns 1) from rfl, made_one]; rfl
  have hsz := one_size
  have hb := ring_begins (turns 1) hn [iHead, iHead] hm .nil (by rw [hall]; show 1 + (1 + (codeT ringOne).size + 1) + 1 ≤ _; omega)
  rw [hall, turns_length] at hb
  have ht := turn_run 1 0 [codeT ringOne] .nil (by omega) rfl 65 (by omega)
  have hr := run_behind (pre := specHead (bs (tabL (behind (turns 1)))) ++ ringHead) (p := turnP 1 0) (m := 35) (x := .nil) (y := .cons (lstT [codeT ringOne]) .nil) (fun j hj => by
    have := vi_turn 1 0 j hj
    rw [List.getD_eq_getElem?_getD, List.getElem?_eq_getElem hj]
    exact this) hb 65
  rw [ht] at hr
  exact hr
/-- What the example comes to. -/
theorem awake_is (k : Nat) (hk : 16000 ≤ k) : ring_Ring.f k 1 = some ([ringOne], 0) := by
  obtain ⟨k', hk', e⟩ := ring_tells 1 (by omega) (by omega) k hk
  rw [show (1 : Int) = ((1 : Nat) : Int) from rfl, e, together_yes (okp_turns 1 (by omega) (by omega)) (by rw [turns_length]; omega) (by rw [turns_length]; omega) one_fine k' (by omega), made_one]
end Go.Proofs.YtocoamgbpoommaaGreatDoor.Plain
end
section
/- The contracts of Coded and of the chapter's first example: a ring of one program returns its own code. -/
namespace Go.Proofs.YtocoamgbpoommaaGreatDoor.C
open Go.RowKit Go.Proofs.YtocoamgbpoommaaGreatDoorW.PrintWords Go.Proofs.YtocoamgbpoommaaGreatDoorW.PrintLast Go.Proofs.YtocoamgbpoommaaGreatDoorW.PrintMore
open Go.Proofs.YtocoamgbpoommaaGreatDoor.Plain (Tr dec OKP codeL codeT codeT_enc okp_nice isT_codeL refValidp_yes okp_fits refCoded_yes bs bl_bs bs_size runM dec_enc dec_codeL codeT_size)
set_option linter.unusedVariables false
set_option linter.unusedSimpArgs false

set_option maxHeartbeats 2000000 in
set_option maxRecDepth 100000 in
theorem Coded_calls (A : Option Addr) (c : Nat) (p : Prg) (w : World) (hC : Kd.C k72 w A p.length p) (hc : p.length ≤ c) (hp : OKP p) (hz : (codeL p).length ≤ 2000000) :
    Calls Tryz.prog 26 #[.slice A p.length c] w fun e w' => ∃ v, e = .returned (.tuple #[v, .bool true]) ∧ Nd w' (codeT p) v ∧ Below w.heap.size w w' := by
  have hv := refValidp_yes (k := 5000000) (okp_fits hp) (by omega) hp
  have hk := refCoded_yes hp 5000000 (by omega)
  rw [decide_eq_true hz] at hk
  have hT : Plain.IsT (bs (codeL p)).data.toList ∧ (bs (codeL p)).size ≤ 100000000 := ⟨by rw [show (bs (codeL p)).data.toList = codeL p from bl_bs _]; exact isT_codeL (okp_nice hp), by rw [bs_size]; omega⟩
  have HD : Aside0 (dec (bs (codeL p)).data.toList = codeT p) := ⟨by rw [show (bs (codeL p)).data.toList = codeL p from bl_bs _]; exact dec_codeL hp⟩
  have HC := Aside0.mk hC
  have HCC := Aside0.mk hc
  have HV := Aside0.mk hv
  have HK := Aside0.mk hk
  have HT := Aside0.mk hT
  clear hC hc hp hz hv hk hT
  go_enter Tryz.func26, Tryz.ntmps26
  go_wp2_with (first
    | (go_at_call 27; refine (narcissusref02_Valid.calls 5000000 A c p true _ HC.out HCC.out HV.out).mono ?_; rintro e w1 ⟨rfl, hb1⟩; have HB1 := Aside0.mk hb1; clear hb1)
    | (go_at_call 47; refine (narcissusref07_Coded.calls 5000000 A c p (bs (codeL p)) true _ (Kd.C_below HC.out HB1.out) HCC.out HK.out).mono ?_; rintro e w2 ⟨rfl, hb2⟩; have HB2 := Aside0.mk (below_then HB1.out HB1.out.size hb2); clear hb2)
    | (go_at_call 22; refine (Read_calls (bs (codeL p)) _ HT.out.1 HT.out.2).mono ?_; rintro e w3 ⟨u, rfl, hu, hb3⟩; have HU := Aside0.mk hu; have HB3 := Aside0.mk (below_then HB2.out HB2.out.size hb3); clear hu hb3))
  go_ret2
  exact ⟨u, rfl, by rw [← HD.out]; exact HU.out, HB3.out⟩

/-- The example holds. -/
def narcissuslaw08_awake.f (k : Nat) : Option Bool := if 16000 ≤ k then some true else none
theorem narcissuslaw08_awake.mono : ∀ k, LeO (narcissuslaw08_awake.f k) (narcissuslaw08_awake.f (k + 1)) := by
  intro k r h
  unfold narcissuslaw08_awake.f at h ⊢
  split at h
  case isFalse => cases h
  case isTrue hk => rw [if_pos (by omega)]; exact h
set_option maxHeartbeats 4000000 in
set_option maxRecDepth 100000 in
theorem narcissuslaw08_awake.calls (k : Nat) (r : Bool) (w : World) (hL : LaidW w) (h : narcissuslaw08_awake.f k = some r) :
    Calls Tryz.prog 11 #[] w fun e w' => e = .returned (.bool r) ∧ Below w.heap.size w w' := by
  unfold narcissuslaw08_awake.f at h
  split at h
  case isFalse => cases h
  case isTrue hk =>
  obtain rfl := Option.some.inj h
  obtain ⟨e, he, hp, hz, hrun⟩ : ∃ e, ring_Ring.f k 1 = some ([e], 0) ∧ OKP e ∧ (codeL e).length ≤ 2000000 ∧ runM e .nil 100 = (codeT e, 37, 0) := ⟨_, Plain.awake_is k hk, Plain.one_okp, Plain.one_len, Plain.one_run⟩
  have HE := Aside0.mk he
  have HP := Aside0.mk hp
  have HZ := Aside0.mk hz
  have HRUN := Aside0.mk hrun
  have HL := Aside0.mk hL
  clear h he hp hz hrun hL
  go_enter Tryz.func11, Tryz.ntmps11
  go_wp2_with (first
    | (go_at_call 19; refine (ring_Ring.calls k 1 [e] 0 _ HL.out HE.out).mono ?_; rintro e' w1 ⟨vl, rfl, hs, hb⟩; have hs1 := Kd.S_R hs; obtain ⟨A, c, rfl, hcap, hC⟩ := Kd.R_reads hs1; obtain ⟨ad, A1, c1, rfl, cl, hle, hC1⟩ := at_L3 hC 0 (by omega) (by simp); obtain ⟨g, rfl⟩ := Kd.R_head hs1; rw [show rd_L3 [e] 0 = e from rfl] at cl hle hC1; rw [show (0 : Int).toNat = 0 from rfl, add_plain] at cl; have HC1 := Aside0.mk hC1; have HLE := Aside0.mk hle; have HB := Aside0.mk hb; clear hs hs1 hb hC hC1 hle hcap)
    | (go_at_call 26; refine (Coded_calls A1 c1 e _ HC1.out HLE.out HP.out HZ.out).mono ?_; rintro e' w2 ⟨v2, rfl, hn2, hb2⟩; have HN2 := Aside0.mk hn2; have HB2 := Aside0.mk hb2; have cl2 := pw_cell_below hb2 cl; clear hn2 hb2)
    | (go_at_call 28; refine (Load_calls _ A1 c1 e (Kd.C_below HC1.out HB2.out) HP.out).mono ?_; rintro e' w3 ⟨m3, rfl, hm3, hb3⟩; have HM3 := Aside0.mk hm3; have HB3 := Aside0.mk hb3; clear hm3 hb3)
    | (go_at_call 29; refine (Run_calls _ m3 (.pointer none) e .nil 100 HM3.out rfl (by decide) HP.out (by omega)).mono ?_; rw [HRUN.out]; rintro e' w4 ⟨v4, rfl, hn4, hb4⟩; have HN4 := Aside0.mk hn4; have HB4 := Aside0.mk hb4; clear hn4 hb4)
    | (go_at_call 30; refine (Equal_calls (codeT e) (codeT e) v4 v2 _ HN4.out (Nd.keep (NK.trans (NK.below HB3.out) (NK.below HB4.out)) _ _ HN2.out) (by rw [codeT_size HP.out]; have := HZ.out; omega) (by rw [codeT_size HP.out]; have := HZ.out; omega)).mono ?_; rintro e' w5 ⟨⟨v5, rfl, hv5⟩, hb5⟩; obtain rfl := hv5.2 rfl; have HB5 := Aside0.mk hb5; clear hb5 hv5))
  go_ret
  exact ⟨rfl, below_then (below_then (below_then (below_then HB.out HB.out.size HB2.out) (Nat.le_trans HB.out.size HB2.out.size) HB3.out) (Nat.le_trans HB.out.size (Nat.le_trans HB2.out.size HB3.out.size)) HB4.out) (Nat.le_trans HB.out.size (Nat.le_trans HB2.out.size (Nat.le_trans HB3.out.size HB4.out.size))) HB5.out⟩
end Go.Proofs.YtocoamgbpoommaaGreatDoor.C
end
section
/- The contract of codes: the list of the codes of programs. -/
namespace Go.Proofs.YtocoamgbpoommaaGreatDoor.C
open Go.RowKit Go.Proofs.YtocoamgbpoommaaGreatDoorW.PrintWords Go.Proofs.YtocoamgbpoommaaGreatDoorW.PrintLast Go.Proofs.YtocoamgbpoommaaGreatDoorW.PrintMore
open Go.Proofs.YtocoamgbpoommaaGreatDoor.Plain (Tr OKP codeL codeT codeT_size lstT)
set_option linter.unusedVariables false
set_option linter.unusedSimpArgs false

theorem lstT_size {b : Nat} : ∀ l : List Tr, (∀ t ∈ l, t.size ≤ b) → (lstT l).size ≤ l.length * (b + 1) + 1
  | [], _ => by simp [lstT, Tr.size]
  | t :: l, h => by
    have ih := lstT_size l fun x hx => h x (List.mem_cons_of_mem _ hx)
    have h1 := h t List.mem_cons_self
    have e : (lstT (t :: l)).size = 1 + t.size + (lstT l).size := rfl
    rw [e, List.length_cons, Nat.succ_mul]
    omega
set_option maxHeartbeats 2000000 in
set_option maxRecDepth 100000 in
theorem codes_calls (A : Option Addr) (c : Nat) (l : List Prg) (w : World) (hC : Kd.C (Kd.slice 72 k72) w A l.length l) (hl : l.length ≤ 40) (hok : ∀ p ∈ l, OKP p ∧ (codeL p).length ≤ 2000000) :
    Calls Tryz.prog 21 #[.slice A l.length c] w fun e w' => ∃ v, e = .returned (.tuple #[v, .bool true]) ∧ Nd w' (lstT (l.map codeT)) v ∧ Below w.heap.size w w' := by
  have HC := Aside0.mk hC
  have HOK := Aside0.mk hok
  clear hC hok
  go_enter Tryz.func21, Tryz.ntmps21
  go_wp2
  go_loopg [4, 5] (l.length + 1) (fun kq v4 v5 wr => ∃ i : Int, v5 = .int .i64 i ∧ Aside0 (-1 ≤ i ∧ i + 1 ≤ l.length ∧ (i + 1).toNat < kq) ∧ Aside0 (Nd wr (lstT ((l.drop (i + 1).toNat).map codeT)) v4) ∧ Aside0 (Below w.heap.size w wr))
  case atStart => exact ⟨_, rfl, ⟨by omega, by omega, by omega⟩, ⟨by rw [show ((l.length : Int) - 1 + 1).toNat = l.length from by omega, List.drop_length]; rfl⟩, ⟨Below.refl _ _⟩⟩
  case round =>
    obtain ⟨i, rfl, HI, HT, HB⟩ := hrel
    by_cases h0 : 0 ≤ i
    · obtain ⟨m, rfl⟩ := Int.eq_ofNat_of_zero_le h0
      have hm : m < l.length := by have := HI.out; omega
      obtain ⟨ad, A1, c1, rfl, cl, hle, hC1⟩ := at_L3 HC.out (m : Int) (by omega) (by omega)
      have hrd : rd_L3 l (m : Int) = l[m] := by unfold rd_L3; simp [hm]
      rw [hrd] at cl hle hC1
      rw [Int.toNat_natCast] at cl
      replace cl := pw_cell_below HB.out cl
      have HC1 := Aside0.mk (Kd.C_below hC1 HB.out)
      have HLE := Aside0.mk hle
      have hl1 : (m : Int) < (l.length : Int) := by omega
      rw [show ((m : Int) + 1).toNat = m + 1 from by omega] at HT
      have HP := Aside0.mk (HOK.out l[m] (List.getElem_mem hm))
      have HZ : Aside0 ((lstT ((l.drop (m + 1)).map codeT)).size ≤ 1000000000000) := ⟨by
        have := lstT_size (b := 2000000) ((l.drop (m + 1)).map codeT) (fun t ht => by
          obtain ⟨p, hp, rfl⟩ := List.mem_map.1 ht
          have := HOK.out p (List.mem_of_mem_drop hp)
          rw [codeT_size this.1]; exact this.2)
        rw [List.length_map, List.length_drop] at this
        have h2 : (l.length - (m + 1)) * (2000000 + 1) ≤ 40 * 2000001 := Nat.mul_le_mul_right _ (by omega)
        omega⟩
      have HD : Aside0 (lstT ((l.drop m).map codeT) = .cons (codeT l[m]) (lstT ((l.drop (m + 1)).map codeT))) := ⟨by rw [List.drop_eq_getElem_cons hm, List.map_cons]; rfl⟩
      clear hC1 hle hrd
      obtain ⟨k2, rfl⟩ : ∃ k2, gk = k2 + 1 := ⟨gk - 1, by have := HI.out; omega⟩
      go_wp2_with (first
        | (go_at_call 26; refine (Coded_calls A1 c1 l[m] _ HC1.out HLE.out HP.out.1 HP.out.2).mono ?_; rintro e w2 ⟨v2, rfl, hn2, hb2⟩; have HN2 := Aside0.mk hn2; have HT2 := Aside0.mk (Nd.keep (NK.below hb2) _ _ HT.out); have HB2 := Aside0.mk (below_then HB.out HB.out.size hb2); clear hn2 hb2)
        | (go_at_call 23; refine (Cons_calls (codeT l[m]) (lstT ((l.drop (m + 1)).map codeT)) v2 u4 _ HN2.out HT2.out (by rw [codeT_size HP.out.1]; have := HP.out.2; omega) HZ.out).mono ?_; rintro e w3 ⟨u, rfl, hu, hb3⟩; have HU := Aside0.mk hu; have HB3 := Aside0.mk (below_then HB2.out HB2.out.size hb3); clear hu hb3))
      go_roundg k2
      case measure => omega
      case rel =>
        refine ⟨(m : Int) - 1, by go_num, ⟨by omega, by omega, by have := HI.out; omega⟩, ⟨by rw [show ((m : Int) - 1 + 1).toNat = m from by omega, HD.out]; exact HU.out⟩, HB3⟩
    · obtain rfl : i = -1 := by have := HI.out; omega
      go_wp2
      go_ret2
      refine ⟨_, rfl, ?_, HB.out⟩
      have := HT.out
      rwa [show ((-1 : Int) + 1).toNat = 0 from rfl, List.drop_zero] at this
/-- A program of a list, read. -/
theorem prg_at {w : World} {A : Option Addr} {n : Nat} {L : List Prg} (h : Kd.C (Kd.slice 72 k72) w A n L) (hn : L.length = n) (i : Int) (j : Nat) (e : i = (j : Int)) (hj : j < n) :
    ∃ ad A0 c0, A = some ad ∧ w.cell? (ad.add i.toNat) = some (.slice A0 (L[j]'(by omega)).length c0) ∧ (L[j]'(by omega)).length ≤ c0 ∧ Kd.C k72 w A0 (L[j]'(by omega)).length (L[j]'(by omega)) := by
  have hrd : rd_L3 L i = L[j]'(by omega) := by subst e; unfold rd_L3; simp [show j < L.length from by omega]
  have := at_L3 h i (by omega) (by omega)
  rwa [hrd] at this
theorem codes_of {A : Option Addr} {c n : Nat} {L : List Prg} {w : World} (hC : Kd.C (Kd.slice 72 k72) w A n L) (hn : L.length = n) (hl : n ≤ 40) (hok : ∀ p ∈ L, OKP p ∧ (codeL p).length ≤ 2000000) :
    Calls Tryz.prog 21 #[.slice A n c] w fun e w' => ∃ v, e = .returned (.tuple #[v, .bool true]) ∧ Nd w' (lstT (L.map codeT)) v ∧ Below w.heap.size w w' := by
  subst hn
  exact codes_calls A c L w hC hl hok
end Go.Proofs.YtocoamgbpoommaaGreatDoor.C
end
