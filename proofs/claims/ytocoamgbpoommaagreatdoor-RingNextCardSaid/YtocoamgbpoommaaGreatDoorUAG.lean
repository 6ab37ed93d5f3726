/- Texts of this claim, together: what the functions return, and what they say in plain words. -/
import Derived.Test.YtocoamgbpoommaaGreatDoorUAD
import Derived.Test.YtocoamgbpoommaaGreatDoorUAF
section
/- The contract of codes: the list of the codes of programs. -/
namespace Go.Proofs.YtocoamgbpoommaaGreatDoor.C
open Go.RowKit Go.Proofs.YtocoamgbpoommaaGreatDoorW.PrintWords Go.Proofs.YtocoamgbpoommaaGreatDoorW.PrintLast Go.Proofs.YtocoamgbpoommaaGreatDoorW.PrintMore
open Go.Proofs.YtocoamgbpoommaaGreatDoor.Plain (Tr OKP codeL codeT codeT_size lstT)
set_option linter.unusedVariables false
set_option linter.unusedSimpArgs false

theorem lstT_size {b : Nat} : ∀ l : List Tr, (∀ t ∈ l, t.size ≤ b) → (lstT l).size ≤ l.length * (b + 1) + 1
  | [], _ => by simp [lstT, Tr.size]
  | t :: l, h => by
    have ih := lstT_size l fun x hx => h x (List.mem_cons_of_mem _ hx)
    have h1 := h t List.mem_cons_self
    have e : (lstT (t :: l)).size = 1 + t.size + (lstT l).size := rfl
    rw [e, List.length_cons, Nat.succ_mul]
    omega
set_option maxHeartbeats 2000000 in
set_option maxRecDepth 100000 in
theorem codes_calls (A : Option Addr) (c : Nat) (l : List Prg) (w : World) (hC : Kd.C (Kd.slice 72 k72) w A l.length l) (hl : l.length ≤ 40) (hok : ∀ p ∈ l, OKP p ∧ (codeL p).length ≤ 2000000) :
    Calls Tryz.prog 21 #[.slice A l.length c] w fun e w' => ∃ v, e = .returned (.tuple #[v, .bool true]) ∧ Nd w' (lstT (l.map codeT)) v ∧ Below w.heap.size w w' := by
  have HC := Aside0.mk hC
  have HOK := Aside0.mk hok
  clear hC hok
  go_enter Tryz.func21, Tryz.ntmps21
  go_wp2
  go_loopg [4, 5] (l.length + 1) (fun kq v4 v5 wr => ∃ i : Int, v5 = .int .i64 i ∧ Aside0 (-1 ≤ i ∧ i + 1 ≤ l.length ∧ (i + 1).toNat < kq) ∧ Aside0 (Nd wr (lstT ((l.drop (i + 1).toNat).map codeT)) v4) ∧ Aside0 (Below w.heap.size w wr))
  case atStart => exact ⟨_, rfl, ⟨by omega, by omega, by omega⟩, ⟨by rw [show ((l.length : Int) - 1 + 1).toNat = l.length from by omega, List.drop_length]; rfl⟩, ⟨Below.refl _ _⟩⟩
  case round =>
    obtain ⟨i, rfl, HI, HT, HB⟩ := hrel
    by_cases h0 : 0 ≤ i
    · obtain ⟨m, rfl⟩ := Int.eq_ofNat_of_zero_le h0
      have hm : m < l.length := by have := HI.out; omega
      obtain ⟨ad, A1, c1, rfl, cl, hle, hC1⟩ := at_L3 HC.out (m : Int) (by omega) (by omega)
      have hrd : rd_L3 l (m : Int) = l[m] := by unfold rd_L3; simp [hm]
      rw [hrd] at cl hle hC1
      rw [Int.toNat_natCast] at cl
      replace cl := pw_cell_below HB.out cl
      have HC1 := Aside0.mk (Kd.C_below hC1 HB.out)
      have HLE := Aside0.mk hle
      have hl1 : (m : Int) < (l.length : Int) := by omega
      rw [show ((m : Int) + 1).toNat = m + 1 from by omega] at HT
      have HP := Aside0.mk (HOK.out l[m] (List.getElem_mem hm))
      have HZ : Aside0 ((lstT ((l.drop (m + 1)).map codeT)).size ≤ 1000000000000) := ⟨by
        have := lstT_size (b := 2000000) ((l.drop (m + 1)).map codeT) (fun t ht => by
          obtain ⟨p, hp, rfl⟩ := List.mem_map.1 ht
          have := HOK.out p (List.mem_of_mem_drop hp)
          rw [codeT_size this.1]; exact this.2)
        rw [List.length_map, List.length_drop] at this
        have h2 : (l.length - (m + 1)) * (2000000 + 1) ≤ 40 * 2000001 := Nat.mul_le_mul_right _ (by omega)
        omega⟩
      have HD : Aside0 (lstT ((l.drop m).map codeT) = .cons (codeT l[m]) (lstT ((l.drop (m + 1)).map codeT))) := ⟨by rw [List.drop_eq_getElem_cons hm, List.map_cons]; rfl⟩
      clear hC1 hle hrd
      obtain ⟨k2, rfl⟩ : ∃ k2, gk = k2 + 1 := ⟨gk - 1, by have := HI.out; omega⟩
      go_wp2_with (first
        | (go_at_call 26; refine (Coded_calls A1 c1 l[m] _ HC1.out HLE.out HP.out.1 HP.out.2).mono ?_; rintro e w2 ⟨v2, rfl, hn2, hb2⟩; have HN2 := Aside0.mk hn2; have HT2 := Aside0.mk (Nd.keep (NK.below hb2) _ _ HT.out); have HB2 := Aside0.mk (below_then HB.out HB.out.size hb2); clear hn2 hb2)
        | (go_at_call 23; refine (Cons_calls (codeT l[m]) (lstT ((l.drop (m + 1)).map codeT)) v2 u4 _ HN2.out HT2.out (by rw [codeT_size HP.out.1]; have := HP.out.2; omega) HZ.out).mono ?_; rintro e w3 ⟨u, rfl, hu, hb3⟩; have HU := Aside0.mk hu; have HB3 := Aside0.mk (below_then HB2.out HB2.out.size hb3); clear hu hb3))
      go_roundg k2
      case measure => omega
      case rel =>
        refine ⟨(m : Int) - 1, by go_num, ⟨by omega, by omega, by have := HI.out; omega⟩, ⟨by rw [show ((m : Int) - 1 + 1).toNat = m from by omega, HD.out]; exact HU.out⟩, HB3⟩
    · obtain rfl : i = -1 := by have := HI.out; omega
      go_wp2
      go_ret2
      refine ⟨_, rfl, ?_, HB.out⟩
      have := HT.out
      rwa [show ((-1 : Int) + 1).toNat = 0 from rfl, List.drop_zero] at this
end Go.Proofs.YtocoamgbpoommaaGreatDoor.C
end
section
/- The programs of a ring in plain words: for at most eight nothing is too large, and each returns the code of the next one. -/
namespace Go.Proofs.YtocoamgbpoommaaGreatDoor.Plain
open Go.Proofs.YtocoamgbpoommaaGreatDoor.C
open Go.RowKit Go.Proofs.YtocoamgbpoommaaGreatDoorW.PrintWords Go.Proofs.YtocoamgbpoommaaGreatDoorW.PrintLast Go.Proofs.YtocoamgbpoommaaGreatDoorW.PrintMore
set_option linter.unusedVariables false
set_option linter.unusedSimpArgs false

set_option maxRecDepth 100000 in
theorem turn8 : ∀ m : Fin 8, (codeL (ringHead ++ (iHead :: (List.replicate m.1 iTail ++ [iHead])))).length ≤ 6000 := by decide +kernel
theorem sizes_append (p q : List Ins) : sizes (p ++ q) = sizes p + sizes q := by unfold sizes; rw [List.map_append, List.sum_append]
theorem head_sizes : sizes ringHead ≤ 1000 := by decide +kernel
theorem code8 (n j : Nat) (hn : 0 < n) (h : n ≤ 8) : (codeL (ringHead ++ turnP n j)).length ≤ 6000 :=
  turn8 ⟨(j + 1) % n, by have := Nat.mod_lt (j + 1) hn; omega⟩
theorem lsum_le {b : Nat} : ∀ l : List (List Ins), (∀ e ∈ l, (codeL e).length ≤ b) → lsum l ≤ l.length * (b + 1)
  | [], _ => by simp [lsum]
  | e :: l, h => by
    have ih := lsum_le l fun x hx => h x (List.mem_cons_of_mem _ hx)
    have h1 := h e List.mem_cons_self
    rw [lsum, List.length_cons, Nat.succ_mul]
    omega
theorem behind_length (l : List (List Ins)) : (behind l).length = l.length := by unfold behind; rw [List.length_map]
theorem made_length (l : List (List Ins)) : (madeL l).length = l.length := by unfold madeL; rw [List.length_map]
theorem behind_turn {n : Nat} {e : List Ins} (h : e ∈ behind (turns n)) : ∃ j, j < n ∧ e = ringHead ++ turnP n j := by
  obtain ⟨p, hp, rfl⟩ := List.mem_map.1 h
  obtain ⟨j, hj, rfl⟩ := List.mem_map.1 hp
  exact ⟨j, List.mem_range.1 hj, rfl⟩
theorem okp_behind_turn (n j : Nat) (hn : 0 < n) (h : n ≤ 40) : OKP (ringHead ++ turnP n j) := by
  have hm : (j + 1) % n < n := Nat.mod_lt _ hn
  refine okp_iff.2 ⟨by unfold turnP; simp [ringHead]; omega, ?_, vi_append vi_ringHead (vi_turn n j)⟩
  rw [sizes_append, turn_size]
  have := head_sizes
  omega
theorem lsum8 (n : Nat) (hn : 0 < n) (h : n ≤ 8) : lsum (behind (turns n)) ≤ 48008 := by
  have h1 := lsum_le (b := 6000) (behind (turns n)) fun e he => by
    obtain ⟨j, _, rfl⟩ := behind_turn he
    exact code8 n j hn h
  rw [behind_length, turns_length] at h1
  have : n * (6000 + 1) ≤ 8 * 6001 := Nat.mul_le_mul_right _ h
  omega
theorem good8 (n : Nat) (hn : 0 < n) (h : n ≤ 8) : GoodL (behind (turns n)) := by
  refine ⟨fun e he => ?_, by have := lsum8 n hn h; omega⟩
  obtain ⟨j, _, rfl⟩ := behind_turn he
  exact okp_behind_turn n j hn (by omega)
theorem made8_okp (n : Nat) (hn : 0 < n) (h : n ≤ 8) : ∀ e ∈ madeL (behind (turns n)), OKP e ∧ (codeL e).length ≤ 55000 := by
  intro e he
  have hg := good8 n hn h
  have hy : (bs (tabL (behind (turns n)))).size ≤ 48009 := by rw [bs_size, tabL_length]; have := lsum8 n hn h; omega
  have hv := vi_specHead (validT_tab hg)
  have hY : (dec (tabL (behind (turns n)))).size ≤ 48009 := by
    have hT : IsT (tabL (behind (turns n))) := by have := (validT_tab hg).2; rwa [bl_bs] at this
    rw [← Tr.enc_length, enc_dec hT, tabL_length]
    have := lsum8 n hn h
    omega
  obtain ⟨r, hr, rfl⟩ := List.mem_map.1 he
  obtain ⟨j, hj, rfl⟩ := behind_turn hr
  have hm : (j + 1) % n < n := Nat.mod_lt _ hn
  have hp : OKP (specHead (bs (tabL (behind (turns n)))) ++ (ringHead ++ turnP n j)) := by
    refine okp_iff.2 ⟨by unfold turnP; simp [ringHead, specHead]; omega, ?_, vi_append hv (okp_iff.1 (okp_behind_turn n j hn (by omega))).2.2⟩
    rw [sizes_append, sizes_append, turn_size, sizes_spec]
    have := head_sizes
    omega
  refine ⟨hp, ?_⟩
  have h4 := codeT_size (okp_behind_turn n j hn (by omega))
  have h5 := code8 n j hn h
  rw [← codeT_size hp, codeT_spec, bl_bs]
  generalize dec (tabL (behind (turns n))) = Y at *
  generalize codeT (ringHead ++ turnP n j) = c at *
  show 1 + (1 + 1 + (1 + 3 + Y.size)) + (1 + 13 + (1 + 7 + c.size)) ≤ 55000
  omega
/-- For at most eight nothing is too large. -/
theorem fine8 (n : Nat) (hn : 0 < n) (h : n ≤ 8) : Fine (turns n) := by
  refine ⟨good8 n hn h, fun e he => (made8_okp n hn h e he).1, ?_⟩
  have h1 := lsum_le (b := 55000) _ fun e he => (made8_okp n hn h e he).2
  rw [made_length, behind_length, turns_length] at h1
  have : n * (55000 + 1) ≤ 8 * 55001 := Nat.mul_le_mul_right _ h
  omega
/-- The programs of the ring. -/
def ringOf (n : Nat) : List (List Ins) := madeL (behind (turns n))
theorem ringOf_length (n : Nat) : (ringOf n).length = n := by unfold ringOf; rw [made_length, behind_length, turns_length]
theorem ringOf_at (n j : Nat) (hj : j < n) : (ringOf n)[j]'(by rw [ringOf_length]; exact hj) = specHead (bs (tabL (behind (turns n)))) ++ ringHead ++ turnP n j := by
  rw [List.append_assoc]
  unfold ringOf madeL
  rw [List.getElem_map]
  congr 1
  unfold behind
  rw [List.getElem_map]
  congr 1
  unfold turns
  rw [List.getElem_map, List.getElem_range]
/-- Each program of a ring returns the code of the next one. -/
theorem ring_run (n j : Nat) (hn : 0 < n) (h : n ≤ 40) (hf : Fine (turns n)) (hj : j < n) (x : Tr) (hz : 1 + (lstT ((ringOf n).map codeT)).size + x.size ≤ 2000000) :
    runM ((ringOf n)[j]'(by rw [ringOf_length]; exact hj)) x 2000 = (codeT ((ringOf n)[(j + 1) % n]'(by rw [ringOf_length]; exact Nat.mod_lt _ hn)), 26 + 11 * n + (j + 1) % n, 0) := by
  have hm : (j + 1) % n < n := Nat.mod_lt _ hn
  have hN : ∀ p ∈ turns n, ∀ x ∈ ringHead ++ p, Nice x := fun p hp => okp_nice (hf.1.1 _ (List.mem_map.2 ⟨p, hp, rfl⟩))
  have hmem : turnP n j ∈ turns n := List.mem_map.2 ⟨j, List.mem_range.2 hj, rfl⟩
  have hb := ring_begins (turns n) hN (turnP n j) hmem x hz
  rw [turns_length] at hb
  have hlen : ((ringOf n).map codeT).length = n := by rw [List.length_map, ringOf_length]
  have ht := turn_run n j ((ringOf n).map codeT) x hn hlen (2000 - (24 + 11 * n)) (by omega)
  have hr := run_behind (pre := specHead (bs (tabL (behind (turns n)))) ++ ringHead) (p := turnP n j) (m := 24 + 11 * n) (x := x) (y := .cons (lstT ((ringOf n).map codeT)) x) (fun i hi => by
    have := vi_turn n j i hi
    rw [List.getD_eq_getElem?_getD, List.getElem?_eq_getElem hi]
    exact this) hb (2000 - (24 + 11 * n))
  rw [ht] at hr
  rw [ringOf_at n j hj]
  rw [show 24 + 11 * n + (2000 - (24 + 11 * n)) = 2000 from by omega] at hr
  rw [hr]
  have hg : ((ringOf n).map codeT).getD ((j + 1) % n) .nil = codeT ((ringOf n)[(j + 1) % n]'(by rw [ringOf_length]; exact hm)) := by
    rw [List.getD_eq_getElem?_getD, List.getElem?_map, List.getElem?_eq_getElem (by rw [ringOf_length]; exact hm)]
    rfl
  rw [hg]
  simp only [if_true]
  congr 2
  omega
end Go.Proofs.YtocoamgbpoommaaGreatDoor.Plain
end
section
/- The contract of the law RingNext. -/
namespace Go.Proofs.YtocoamgbpoommaaGreatDoor.C
open Go.RowKit Go.Proofs.YtocoamgbpoommaaGreatDoorW.PrintWords Go.Proofs.YtocoamgbpoommaaGreatDoorW.PrintLast Go.Proofs.YtocoamgbpoommaaGreatDoorW.PrintMore
open Go.Proofs.YtocoamgbpoommaaGreatDoor.Plain (Tr dec bl OKP codeL codeT codeT_size lstT runM ValidT Fine turns ringOf ringOf_length ring_run ring_tells ring_arg together_yes together_large okp_turns turns_length fine8 refValid_tells okp_fits refValidp_yes tmod_nat)
set_option linter.unusedVariables false
set_option linter.unusedSimpArgs false

theorem lsum_mem {e : Prg} : ∀ {l : List Prg}, e ∈ l → (codeL e).length ≤ Plain.lsum l
  | x :: l, h => by
    rw [Plain.lsum]
    rcases List.mem_cons.1 h with rfl | h
    · omega
    · have := lsum_mem h; omega
theorem refValid_yes {x : ByteArray} (h : ValidT x) : narcissusref01_Valid.f 5000000 x = some true := by
  obtain ⟨v, e, hv⟩ := refValid_tells x 5000000 (by omega)
  rw [e, hv.2 h]
theorem refValid_no {x : ByteArray} (h : ¬ ValidT x) : narcissusref01_Valid.f 5000000 x = some false := by
  obtain ⟨v, e, hv⟩ := refValid_tells x 5000000 (by omega)
  cases v with
  | true => exact absurd (hv.1 rfl) h
  | false => exact e
theorem awake_calls (w : World) (hL : LaidW w) : Calls Tryz.prog 11 #[] w fun e w' => e = .returned (.bool true) ∧ Below w.heap.size w w' :=
  narcissuslaw08_awake.calls 16000 true w hL rfl
/-- What a law answers. -/
abbrev Yes (w : World) (e : Ending) (w' : World) : Prop := e = .returned (.bool true) ∧ Below w.heap.size w w'

set_option maxHeartbeats 2000000 in
set_option maxRecDepth 100000 in
theorem next_large (n : Int) (x : ByteArray) (w : World) (hL : LaidW w) (h : (x.size : Int) > 20000) : Calls Tryz.prog 6 #[.int .i64 n, .string x] w (Yes w) := by
  have t1 : decide (20000 < (x.size : Int)) = true := decide_eq_true h
  have HL := Aside0.mk hL
  clear hL
  go_enter Tryz.func6, Tryz.ntmps6
  go_wp2_with (go_at_call 11; refine (awake_calls _ HL.out).mono ?_; rintro e w1 ⟨rfl, hb⟩; have HB := Aside0.mk hb; clear hb)
  go_ret
  exact ⟨rfl, HB.out⟩
set_option maxHeartbeats 2000000 in
set_option maxRecDepth 100000 in
theorem next_wrong (n : Int) (x : ByteArray) (w : World) (hL : LaidW w) (h : ¬ (x.size : Int) > 20000) (hv : ¬ ValidT x) : Calls Tryz.prog 6 #[.int .i64 n, .string x] w (Yes w) := by
  have t1 : decide (20000 < (x.size : Int)) = false := decide_eq_false h
  have HL := Aside0.mk hL
  have HV := Aside0.mk (refValid_no hv)
  clear hL hv
  go_enter Tryz.func6, Tryz.ntmps6
  go_wp2_with (first
    | (go_at_call 20; refine (narcissusref01_Valid.calls 5000000 x false _ HV.out).mono ?_; rintro e w1 ⟨rfl, nq, rfl⟩)
    | (go_at_call 11; refine (awake_calls _ (HL.out.drewN nq)).mono ?_; rintro e w2 ⟨rfl, hb⟩; have HB := Aside0.mk hb; clear hb))
  go_ret
  exact ⟨rfl, below_then (pw_below_drewN (Below.refl _ _) nq) (Nat.le_refl _) HB.out⟩
set_option maxHeartbeats 4000000 in
set_option maxRecDepth 100000 in
/-- Ring's error: what the law answers. -/
theorem next_err (n : Int) (x : ByteArray) (w : World) (hL : LaidW w) (h : ¬ (x.size : Int) > 20000) (hv : ValidT x) (k : Nat) (ev : Int) (hr : ring_Ring.f k n = some ([], ev)) (he : (ev = 2 ∧ n < 1) ∨ (ev = 2 ∧ ¬ n < 1 ∧ 40 < n) ∨ (ev = 3 ∧ 8 < n ∧ n ≤ 40)) :
    Calls Tryz.prog 6 #[.int .i64 n, .string x] w (Yes w) := by
  have t1 : decide (20000 < (x.size : Int)) = false := decide_eq_false h
  have HL := Aside0.mk hL
  have HV := Aside0.mk (refValid_yes hv)
  have HR := Aside0.mk hr
  clear hL hv hr
  rcases he with ⟨rfl, h1⟩ | ⟨rfl, h1, h2⟩ | ⟨rfl, h1, h2⟩
  · have t2 : decide (n < 1) = true := decide_eq_true h1
    go_enter Tryz.func6, Tryz.ntmps6
    go_wp2_with (first
      | (go_at_call 20; refine (narcissusref01_Valid.calls 5000000 x true _ HV.out).mono ?_; rintro e w1 ⟨rfl, nq, rfl⟩)
      | (go_at_call 19; refine (ring_Ring.calls k n [] _ _ (HL.out.drewN nq) HR.out).mono ?_; rintro e' w2 ⟨vl, rfl, hs, hb⟩; have HB := Aside0.mk (below_then (pw_below_drewN (Below.refl _ _) nq) (Nat.le_refl _) hb); clear hs hb)
      | (go_at_call 11; refine (awake_calls _ (HL.out.below HB.out)).mono ?_; rintro e w3 ⟨rfl, hb⟩; have HB2 := Aside0.mk (below_then HB.out HB.out.size hb); clear hb))
    go_ret
    exact ⟨rfl, HB2.out⟩
  · have t2 : decide (n < 1) = false := decide_eq_false h1
    have t3 : decide (40 < n) = true := decide_eq_true h2
    go_enter Tryz.func6, Tryz.ntmps6
    go_wp2_with (first
      | (go_at_call 20; refine (narcissusref01_Valid.calls 5000000 x true _ HV.out).mono ?_; rintro e w1 ⟨rfl, nq, rfl⟩)
      | (go_at_call 19; refine (ring_Ring.calls k n [] _ _ (HL.out.drewN nq) HR.out).mono ?_; rintro e' w2 ⟨vl, rfl, hs, hb⟩; have HB := Aside0.mk (below_then (pw_below_drewN (Below.refl _ _) nq) (Nat.le_refl _) hb); clear hs hb)
      | (go_at_call 11; refine (awake_calls _ (HL.out.below HB.out)).mono ?_; rintro e w3 ⟨rfl, hb⟩; have HB2 := Aside0.mk (below_then HB.out HB.out.size hb); clear hb))
    go_ret
    exact ⟨rfl, HB2.out⟩
  · have t2 : decide (8 < n) = true := decide_eq_true h1
    have t3 : decide (n ≤ 40) = true := decide_eq_true h2
    go_enter Tryz.func6, Tryz.ntmps6
    go_wp2_with (first
      | (go_at_call 20; refine (narcissusref01_Valid.calls 5000000 x true _ HV.out).mono ?_; rintro e w1 ⟨rfl, nq, rfl⟩)
      | (go_at_call 19; refine (ring_Ring.calls k n [] _ _ (HL.out.drewN nq) HR.out).mono ?_; rintro e' w2 ⟨vl, rfl, hs, hb⟩; have HB := Aside0.mk (below_then (pw_below_drewN (Below.refl _ _) nq) (Nat.le_refl _) hb); clear hs hb)
      | (go_at_call 11; refine (awake_calls _ (HL.out.below HB.out)).mono ?_; rintro e w3 ⟨rfl, hb⟩; have HB2 := Aside0.mk (below_then HB.out HB.out.size hb); clear hb))
    go_ret
    exact ⟨rfl, HB2.out⟩
end Go.Proofs.YtocoamgbpoommaaGreatDoor.C
end
section
/- The contract of the law RingNext where Ring returns programs. -/
namespace Go.Proofs.YtocoamgbpoommaaGreatDoor.C
open Go.RowKit Go.Proofs.YtocoamgbpoommaaGreatDoorW.PrintWords Go.Proofs.YtocoamgbpoommaaGreatDoorW.PrintLast Go.Proofs.YtocoamgbpoommaaGreatDoorW.PrintMore
open Go.Proofs.YtocoamgbpoommaaGreatDoor.Plain (Tr dec bl OKP codeL codeT codeT_size lstT runM ValidT Fine turns ringOf ringOf_length ring_run ring_tells ring_arg together_yes together_large okp_turns turns_length fine8 refValid_tells okp_fits refValidp_yes tmod_nat)
set_option linter.unusedVariables false
set_option linter.unusedSimpArgs false

/-- A program of a list, read. -/
theorem prg_at {w : World} {A : Option Addr} {n : Nat} {L : List Prg} (h : Kd.C (Kd.slice 72 k72) w A n L) (hn : L.length = n) (i : Int) (j : Nat) (e : i = (j : Int)) (hj : j < n) :
    ∃ ad A0 c0, A = some ad ∧ w.cell? (ad.add i.toNat) = some (.slice A0 (L[j]'(by omega)).length c0) ∧ (L[j]'(by omega)).length ≤ c0 ∧ Kd.C k72 w A0 (L[j]'(by omega)).length (L[j]'(by omega)) := by
  have hrd : rd_L3 L i = L[j]'(by omega) := by subst e; unfold rd_L3; simp [show j < L.length from by omega]
  have := at_L3 h i (by omega) (by omega)
  rwa [hrd] at this
theorem codes_of {A : Option Addr} {c n : Nat} {L : List Prg} {w : World} (hC : Kd.C (Kd.slice 72 k72) w A n L) (hn : L.length = n) (hl : n ≤ 40) (hok : ∀ p ∈ L, OKP p ∧ (codeL p).length ≤ 2000000) :
    Calls Tryz.prog 21 #[.slice A n c] w fun e w' => ∃ v, e = .returned (.tuple #[v, .bool true]) ∧ Nd w' (lstT (L.map codeT)) v ∧ Below w.heap.size w w' := by
  subst hn
  exact codes_calls A c L w hC hl hok
set_option maxHeartbeats 8000000 in
set_option maxRecDepth 100000 in
theorem next_ok (m : Nat) (x : ByteArray) (w : World) (hL : LaidW w) (h : ¬ (x.size : Int) > 20000) (hv : ValidT x) (k : Nat) (L : List Prg) (hlen : L.length = m) (hm0 : 0 < m) (hm : m ≤ 40) (hr : ring_Ring.f k (m : Int) = some (L, 0))
    (hok : ∀ p ∈ L, OKP p ∧ (codeL p).length ≤ 2000000)
    (hrun : 1 + (lstT (L.map codeT)).size + (dec (bl x)).size ≤ 2000000 → ∀ j (hj : j < m), runM (L[j]'(by omega)) (dec (bl x)) 2000 = (codeT (L[(j + 1) % m]'(by have := Nat.mod_lt (j + 1) hm0; omega)), 26 + 11 * m + (j + 1) % m, 0)) :
    Calls Tryz.prog 6 #[.int .i64 m, .string x] w (Yes w) := by
  have t1 : decide (20000 < (x.size : Int)) = false := decide_eq_false h
  have t2 : decide ((m : Int) < 1) = false := decide_eq_false (by omega)
  have hzx : (dec (bl x)).size = x.size := by rw [← Tr.enc_length, Plain.enc_dec hv.2]; exact Array.length_toList
  have hzl : (lstT (L.map codeT)).size ≤ 40 * (2000000 + 1) + 1 := by
    clear hrun hr hzx
    have h1 := lstT_size (b := 2000000) (L.map codeT) (fun t ht => by
      obtain ⟨p, hp, rfl⟩ := List.mem_map.1 ht
      rw [codeT_size (hok p hp).1]; exact (hok p hp).2)
    rw [List.length_map, hlen] at h1
    exact Nat.le_trans h1 (Nat.add_le_add_right (Nat.mul_le_mul_right _ hm) 1)
  have hIT : Plain.IsT x.data.toList ∧ x.size ≤ 100000000 := ⟨hv.2, by omega⟩
  have hc := fun (A : Option Addr) (c : Nat) (w : World) (hC : Kd.C (Kd.slice 72 k72) w A m L) => codes_of (c := c) hC hlen hm hok
  rw [show (bl x) = x.data.toList from rfl] at hrun hzx
  generalize hT : dec x.data.toList = X at *
  generalize lstT (L.map codeT) = Y at *
  have HX : Aside0 (X.size ≤ 2000000 ∧ X.size ≤ 1000000000000) := ⟨by omega, by omega⟩
  have HT := Aside0.mk hT
  have HL := Aside0.mk hL
  have HV := Aside0.mk (refValid_yes hv)
  have HR := Aside0.mk hr
  have HOK := Aside0.mk hok
  have HRUN := Aside0.mk hrun
  have HLEN := Aside0.mk hlen
  have HIT := Aside0.mk hIT
  have HCD := Aside0.mk hc
  have hx1 : (X.size : Int) ≤ 20000 := by omega
  have hy1 : (Y.size : Int) ≤ 80000041 := by omega
  clear hL hv hr hok hrun hIT hT hc h hzx hzl
  by_cases hbig : 2000000 < 1 + (Y.size : Int) + (X.size : Int)
  · have t3 : decide (2000000 < 1 + (Y.size : Int) + (X.size : Int)) = true := decide_eq_true hbig
    clear hbig
    go_enter Tryz.func6, Tryz.ntmps6
    go_wp2_with (first
      | (go_at_call 20; refine (narcissusref01_Valid.calls 5000000 x true _ HV.out).mono ?_; rintro e w1 ⟨rfl, nq, rfl⟩)
      | (go_at_call 19; refine (ring_Ring.calls k m L 0 _ (HL.out.drewN nq) HR.out).mono ?_; rintro e' w2 ⟨vl, rfl, hs, hb⟩; have hs1 := Kd.S_R hs; obtain ⟨A, c, hvl, hcap, hC⟩ := Kd.R_reads hs1; rw [HLEN.out] at hvl hcap hC; subst hvl; have HC := Aside0.mk hC; have HB := Aside0.mk (below_then (pw_below_drewN (Below.refl _ _) nq) (Nat.le_refl _) hb); clear hs hs1 hb hC)
      | (go_at_call 22; refine (Read_calls x _ HIT.out.1 HIT.out.2).mono ?_; rintro e w3 ⟨vx, rfl, hx, hb3⟩; rw [HT.out] at hx; have HNX := Aside0.mk hx; have HB3 := Aside0.mk (below_then HB.out HB.out.size hb3); have HC3 := Aside0.mk (Kd.C_below HC.out hb3); clear hx hb3)
      | (go_at_call 21; refine (HCD.out A c _ HC3.out).mono ?_; rintro e w4 ⟨vy, rfl, hy, hb4⟩; have HNY := Aside0.mk hy; have HNX4 := Aside0.mk (Nd.keep (NK.below hb4) _ _ HNX.out); have HB4 := Aside0.mk (below_then HB3.out HB3.out.size hb4); have HC4 := Aside0.mk (Kd.C_below HC3.out hb4); clear hy hb4)
      | (go_at_call 25; first | (refine (Size_calls Y vy _ HNY.out).mono ?_; rintro e w5 ⟨rfl, rfl⟩) | (refine (Size_calls X vx _ HNX4.out).mono ?_; rintro e w5 ⟨rfl, rfl⟩))
      | (go_at_call 11; refine (awake_calls _ (HL.out.below HB4.out)).mono ?_; rintro e w6 ⟨rfl, hb⟩; have HB6 := Aside0.mk (below_then HB4.out HB4.out.size hb); clear hb))
    go_ret
    exact ⟨rfl, HB6.out⟩
  · have t3 : decide (2000000 < 1 + (Y.size : Int) + (X.size : Int)) = false := decide_eq_false hbig
    have HRUN2 := Aside0.mk (HRUN.out (by omega))
    clear hbig HRUN
    go_enter Tryz.func6, Tryz.ntmps6
    go_wp2_with (first
      | (go_at_call 20; refine (narcissusref01_Valid.calls 5000000 x true _ HV.out).mono ?_; rintro e w1 ⟨rfl, nq, rfl⟩)
      | (go_at_call 19; refine (ring_Ring.calls k m L 0 _ (HL.out.drewN nq) HR.out).mono ?_; rintro e' w2 ⟨vl, rfl, hs, hb⟩; have hs1 := Kd.S_R hs; obtain ⟨A, c, hvl, hcap, hC⟩ := Kd.R_reads hs1; rw [HLEN.out] at hvl hcap hC; subst hvl; have HC := Aside0.mk hC; have HB := Aside0.mk (below_then (pw_below_drewN (Below.refl _ _) nq) (Nat.le_refl _) hb); clear hs hs1 hb hC)
      | (go_at_call 22; refine (Read_calls x _ HIT.out.1 HIT.out.2).mono ?_; rintro e w3 ⟨vx, rfl, hx, hb3⟩; rw [HT.out] at hx; have HNX := Aside0.mk hx; have HB3 := Aside0.mk (below_then HB.out HB.out.size hb3); have HC3 := Aside0.mk (Kd.C_below HC.out hb3); clear hx hb3)
      | (go_at_call 21; refine (HCD.out A c _ HC3.out).mono ?_; rintro e w4 ⟨vy, rfl, hy, hb4⟩; have HNY := Aside0.mk hy; have HNX4 := Aside0.mk (Nd.keep (NK.below hb4) _ _ HNX.out); have HB4 := Aside0.mk (below_then HB3.out HB3.out.size hb4); have HC4 := Aside0.mk (Kd.C_below HC3.out hb4); clear hy hb4)
      | (go_at_call 25; first | (refine (Size_calls Y vy _ HNY.out).mono ?_; rintro e w5 ⟨rfl, rfl⟩) | (refine (Size_calls X vx _ HNX4.out).mono ?_; rintro e w5 ⟨rfl, rfl⟩)))
    go_loopg [10] (m + 1) (fun kq v10 wr => ∃ i : Nat, v10 = .int .i64 i ∧ i ≤ m ∧ Aside0 (kq = m - i + 1) ∧ Aside0 (Below w4.heap.size w4 wr))
    case atStart => exact ⟨0, rfl, Nat.zero_le _, ⟨by omega⟩, ⟨Below.refl _ _⟩⟩
    case round =>
      obtain ⟨i, rfl, hi, HI, HBR⟩ := hrel
      by_cases hlt : i < m
      · have ht : Int.tmod ((i : Int) + 1) (m : Int) = (((i + 1) % m : Nat) : Int) := by rw [show (i : Int) + 1 = ((i + 1 : Nat) : Int) from rfl, tmod_nat]
        have hmm : (i + 1) % m < m := Nat.mod_lt _ hm0
        obtain ⟨ad, A1, c1, rfl, cl1, hle1, hC1⟩ := prg_at HC4.out HLEN.out (Int.tmod ((i : Int) + 1) (m : Int)) ((i + 1) % m) ht hmm
        obtain ⟨ad', A2, c2, e2, cl2, hle2, hC2⟩ := prg_at HC4.out HLEN.out (i : Int) i rfl hlt
        injection e2 with e2
        subst e2
        have b0 : 0 ≤ ((i : Int) + 1) % (m : Int) := Int.emod_nonneg _ (by omega)
        have b1 : ((i : Int) + 1) % (m : Int) < (m : Int) := Int.emod_lt_of_pos _ (by omega)
        have b2 : (i : Int) < (m : Int) := by omega
        have b3 : ((m : Int) == 0) = false := beq_eq_false_iff_ne.2 (by omega)
        have hlL := HLEN.out
        have HP1 := Aside0.mk (HOK.out (L[(i + 1) % m]'(by omega)) (List.getElem_mem _))
        have HP2 := Aside0.mk (HOK.out (L[i]'(by omega)) (List.getElem_mem _))
        have hrn := HRUN2.out i hlt
        generalize (L[(i + 1) % m]'(by omega)) = q at *
        generalize (L[i]'(by omega)) = p at *
        obtain ⟨K, hK⟩ : ∃ K : Nat, K = 26 + 11 * m + (i + 1) % m := ⟨_, rfl⟩
        rw [← hK] at hrn
        have tk : ((K : Int) != 26 + 11 * (m : Int) + Int.tmod ((i : Int) + 1) (m : Int)) = false := by rw [bne_eq_false_iff_eq]; omega
        have tk2 : ((K : Int) != 26 + 11 * (m : Int) + ((i : Int) + 1) % (m : Int)) = false := by
          rw [bne_eq_false_iff_eq]
          have : ((i : Int) + 1) % (m : Int) = (((i + 1) % m : Nat) : Int) := by push_cast; rfl
          omega
        have HRN := Aside0.mk hrn
        have HV2 := Aside0.mk (refValidp_yes (k := 5000000) (okp_fits HP2.out.1) (by omega) HP2.out.1)
        rw [Int.toNat_natCast] at cl2
        rw [ht, Int.toNat_natCast] at cl1
        replace cl1 := pw_cell_below HBR.out cl1
        replace cl2 := pw_cell_below HBR.out cl2
        have HC1 := Aside0.mk (Kd.C_below hC1 HBR.out)
        have HC2 := Aside0.mk (Kd.C_below hC2 HBR.out)
        have HNXR := Aside0.mk (Nd.keep (NK.below HBR.out) _ _ HNX4.out)
        have HLE1 := Aside0.mk hle1
        have HLE2 := Aside0.mk hle2
        obtain ⟨k2, rfl⟩ : ∃ k2, gk = k2 + 1 := ⟨gk - 1, by have := HI.out; omega⟩
        clear hC1 hC2 hle1 hle2 hrn hK ht hmm hlL
        go_wp2_with (first
          | (go_at_call 26; refine (Coded_calls A1 c1 q _ HC1.out HLE1.out HP1.out.1 HP1.out.2).mono ?_; rintro e w7 ⟨v7, rfl, hn7, hb7⟩; have HN7 := Aside0.mk hn7; have HNX7 := Aside0.mk (Nd.keep (NK.below hb7) _ _ HNXR.out); have cl7 := pw_cell_below hb7 cl2; have HC7 := Aside0.mk (Kd.C_below HC2.out hb7); have HB7 := Aside0.mk (below_then HBR.out HBR.out.size hb7); clear hn7 hb7)
          | (go_at_call 27; refine (narcissusref02_Valid.calls 5000000 A2 c2 p true _ HC7.out HLE2.out HV2.out).mono ?_; rintro e w8 ⟨rfl, hb8⟩; have HN8 := Aside0.mk (Nd.keep (NK.below hb8) _ _ HN7.out); have HNX8 := Aside0.mk (Nd.keep (NK.below hb8) _ _ HNX7.out); have cl8 := pw_cell_below hb8 cl7; have HC8 := Aside0.mk (Kd.C_below HC7.out hb8); have HB8 := Aside0.mk (below_then HB7.out HB7.out.size hb8); clear hb8)
          | (go_at_call 28; refine (Load_calls _ A2 c2 p HC8.out HP2.out.1).mono ?_; rintro e w9 ⟨m9, rfl, hm9, hb9⟩; have HM9 := Aside0.mk hm9; have HN9 := Aside0.mk (Nd.keep (NK.below hb9) _ _ HN8.out); have HNX9 := Aside0.mk (Nd.keep (NK.below hb9) _ _ HNX8.out); have HB9 := Aside0.mk (below_then HB8.out HB8.out.size hb9); clear hm9 hb9)
          | (go_at_call 29; refine (Run_calls _ m9 vx p X 2000 HM9.out HNX9.out HX.out.1 HP2.out.1 (by omega)).mono ?_; rw [HRN.out]; rintro e w10 ⟨v10, rfl, hn10, hb10⟩; have HNR := Aside0.mk hn10; have HN10 := Aside0.mk (Nd.keep (NK.below hb10) _ _ HN9.out); have HB10 := Aside0.mk (below_then HB9.out HB9.out.size hb10); clear hn10 hb10)
          | (go_at_call 30; refine (Equal_calls (codeT q) (codeT q) v10 v7 _ HNR.out HN10.out (by rw [codeT_size HP1.out.1]; have := HP1.out.2; omega) (by rw [codeT_size HP1.out.1]; have := HP1.out.2; omega)).mono ?_; rintro e w11 ⟨⟨v11, rfl, hv11⟩, hb11⟩; obtain rfl := hv11.2 rfl; have HB11 := Aside0.mk (below_then HB10.out HB10.out.size hb11); clear hb11 hv11))
        go_roundg k2
        case measure => omega
        case rel => exact ⟨i + 1, by go_num, by omega, ⟨by have := HI.out; omega⟩, HB11⟩
      · obtain rfl : i = m := by omega
        go_wp2_with (go_at_call 11; refine (awake_calls _ (HL.out.below (below_then HB4.out HB4.out.size HBR.out))).mono ?_; rintro e w6 ⟨rfl, hb⟩; have HB6 := Aside0.mk (below_then (below_then HB4.out HB4.out.size HBR.out) (Nat.le_trans HB4.out.size HBR.out.size) hb); clear hb)
        go_ret
        exact ⟨rfl, HB6.out⟩
end Go.Proofs.YtocoamgbpoommaaGreatDoor.C
end
section
/- The law RingNext: what it returns, for every number and every text. -/
namespace Go.Proofs.YtocoamgbpoommaaGreatDoor.C
open Go.RowKit Go.Proofs.YtocoamgbpoommaaGreatDoorW.PrintWords Go.Proofs.YtocoamgbpoommaaGreatDoorW.PrintLast Go.Proofs.YtocoamgbpoommaaGreatDoorW.PrintMore
open Go.Proofs.YtocoamgbpoommaaGreatDoor.Plain (dec bl OKP codeL codeT lstT runM ValidT Fine turns ringOf ringOf_length ring_run ring_tells ring_arg together_yes together_large okp_turns turns_length fine8)
set_option linter.unusedVariables false
set_option linter.unusedSimpArgs false

/-- What the law answers. -/
def narcissuslaw08_RingNext.f (k : Nat) (n : Int) (x : ByteArray) : Option Bool := some true
theorem narcissuslaw08_RingNext.calls (k : Nat) (n : Int) (x : ByteArray) (r : Bool) (w : World) (hL : LaidW w) (h : narcissuslaw08_RingNext.f k n x = some r) :
    Calls Tryz.prog 6 #[.int .i64 n, .string x] w fun e w' => e = .returned (.bool r) ∧ Below w.heap.size w w' := by
  obtain rfl : r = true := (Option.some.inj h).symm
  show Calls _ _ _ _ (Yes w)
  by_cases h1 : (x.size : Int) > 20000
  · exact next_large n x w hL h1
  by_cases h2 : ¬ ValidT x
  · exact next_wrong n x w hL h1 h2
  replace h2 := Classical.not_not.1 h2
  by_cases h3 : n < 1
  · exact next_err n x w hL h1 h2 16000 2 (ring_arg n (.inl h3) 16000 (by omega)) (.inl ⟨rfl, h3⟩)
  by_cases h4 : 40 < n
  · exact next_err n x w hL h1 h2 16000 2 (ring_arg n (.inr h4) 16000 (by omega)) (.inr (.inl ⟨rfl, h3, h4⟩))
  obtain ⟨m, rfl⟩ := Int.eq_ofNat_of_zero_le (show 0 ≤ n by omega)
  have hm0 : 0 < m := by omega
  have hm : m ≤ 40 := by omega
  obtain ⟨k', hk', e⟩ := ring_tells m hm0 hm 16000 (by omega)
  have hok := okp_turns m hm0 hm
  by_cases hf : Fine (turns m)
  · rw [together_yes hok (by rw [turns_length]; omega) (by rw [turns_length]; omega) hf k' (by omega)] at e
    refine next_ok m x w hL h1 h2 16000 (ringOf m) (ringOf_length m) hm0 hm e (fun p hp => ⟨hf.2.1 p hp, ?_⟩) (fun hz j hj => ring_run m j hm0 hm hf hj _ hz)
    have h5 := lsum_mem hp
    have h6 : Plain.lsum (ringOf m) < 2000000 := hf.2.2
    omega
  · rw [together_large hok (by rw [turns_length]; omega) (by rw [turns_length]; omega) hf k' (by omega)] at e
    refine next_err m x w hL h1 h2 16000 3 e (.inr (.inr ⟨rfl, ?_, by omega⟩))
    rcases Nat.lt_or_ge 8 m with h8 | h8
    · omega
    · exact absurd (fine8 m hm0 h8) hf
end Go.Proofs.YtocoamgbpoommaaGreatDoor.C
end
