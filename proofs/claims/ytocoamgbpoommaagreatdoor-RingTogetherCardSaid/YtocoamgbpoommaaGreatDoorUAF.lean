/- Texts of this claim, together: what the functions return, and what they say in plain words. -/
import Derived.Test.YtocoamgbpoommaaGreatDoorUAD
import Derived.Test.YtocoamgbpoommaaGreatDoorUAE
import Derived.Test.YtocoamgbpoommaaGreatDoorUB
import Derived.Test.YtocoamgbpoommaaGreatDoorUQ
section
/- Ring against the reference, in plain words. -/
namespace Go.Proofs.YtocoamgbpoommaaGreatDoor.Plain
open Go.Proofs.YtocoamgbpoommaaGreatDoor.C
open Go.RowKit Go.Proofs.YtocoamgbpoommaaGreatDoorW.PrintWords Go.Proofs.YtocoamgbpoommaaGreatDoorW.PrintLast Go.Proofs.YtocoamgbpoommaaGreatDoorW.PrintMore
set_option linter.unusedVariables false
set_option linter.unusedSimpArgs false

theorem awake_ok (k : Nat) (hk : 16000 ≤ k) : narcissuslaw08_awake.f k = some true := if_pos hk
theorem made_small {l : List (List Ins)} (h : Fine l) : ∀ e ∈ madeL (behind l), e.length ≤ 1000000 := fun e he => by have := (h.2.1 e he).1; omega
/-- The law of Ring. -/
theorem ringRings_plain (n : Int) : narcissuslaw08_RingRings.f 3000000 n = some true := by
  have haw := awake_ok 2999999 (by omega)
  unfold narcissuslaw08_RingRings.f
  by_cases hn : 1 ≤ n ∧ n ≤ 40
  · obtain ⟨m, rfl⟩ := Int.eq_ofNat_of_zero_le (show 0 ≤ n by omega)
    have h1 : 0 < m := by omega
    have h2 : m ≤ 40 := by omega
    obtain ⟨k', hk', e⟩ := ring_tells m h1 h2 2999999 (by omega)
    have hok := okp_turns m h1 h2
    have ht := refT_form hok (by rw [turns_length]; omega) 2999999 (by omega)
    rw [if_pos (by omega), decide_eq_true (by omega : (m : Int) ≤ 40), show (3000000 : Nat) = 2999999 + 1 from rfl, narcissuslaw08_RingRings.j0, if_pos rfl, refTurned_tells m h1 h2 2999999 (by omega), Option.bind_some, e]
    by_cases hf : Fine (turns m)
    · rw [ht.1 hf, Option.bind_some, if_pos rfl, together_yes hok (by rw [turns_length]; omega) (by rw [turns_length]; omega) hf k' (by omega), Option.bind_some, if_pos rfl]
      rw [sameL_yes _ (by unfold madeL behind; rw [List.length_map, List.length_map, turns_length]; omega) (made_small hf) 2999999 (by omega), Option.bind_some, if_pos rfl, haw]
      rfl
    · rw [ht.2 hf, Option.bind_some, if_neg (by decide), together_large hok (by rw [turns_length]; omega) (by rw [turns_length]; omega) hf k' (by omega), Option.bind_some, if_pos rfl]
      rw [sameL_yes [] (by simp) (fun p hp => by cases hp) 2999999 (by omega), Option.bind_some, if_pos rfl, haw]
      rfl
  · have hr := ring_arg n (by omega) 2999999 (by omega)
    have hj : narcissuslaw08_RingRings.j0 3000000 n 2 [] false = some true := by
      rw [show (3000000 : Nat) = 2999999 + 1 from rfl, narcissuslaw08_RingRings.j0, if_neg (by decide), hr, Option.bind_some, if_pos rfl, sameL_yes [] (by simp) (fun p hp => by cases hp) 2999999 (by omega), Option.bind_some, if_pos rfl, haw]
      rfl
    by_cases h1 : n ≥ 1
    · rw [if_pos h1, decide_eq_false (by omega : ¬ n ≤ 40), hj]
    · rw [if_neg h1, hj]
end Go.Proofs.YtocoamgbpoommaaGreatDoor.Plain
end
section
/- The programs of a ring in plain words: for at most eight nothing is too large, and each returns the code of the next one. -/
namespace Go.Proofs.YtocoamgbpoommaaGreatDoor.Plain
open Go.Proofs.YtocoamgbpoommaaGreatDoor.C
open Go.RowKit Go.Proofs.YtocoamgbpoommaaGreatDoorW.PrintWords Go.Proofs.YtocoamgbpoommaaGreatDoorW.PrintLast Go.Proofs.YtocoamgbpoommaaGreatDoorW.PrintMore
set_option linter.unusedVariables false
set_option linter.unusedSimpArgs false

set_option maxRecDepth 100000 in
theorem turn8 : ∀ m : Fin 8, (codeL (ringHead ++ (iHead :: (List.replicate m.1 iTail ++ [iHead])))).length ≤ 6000 := by decide +kernel
theorem sizes_append (p q : List Ins) : sizes (p ++ q) = sizes p + sizes q := by unfold sizes; rw [List.map_append, List.sum_append]
theorem head_sizes : sizes ringHead ≤ 1000 := by decide +kernel
theorem code8 (n j : Nat) (hn : 0 < n) (h : n ≤ 8) : (codeL (ringHead ++ turnP n j)).length ≤ 6000 :=
  turn8 ⟨(j + 1) % n, by have := Nat.mod_lt (j + 1) hn; omega⟩
theorem lsum_le {b : Nat} : ∀ l : List (List Ins), (∀ e ∈ l, (codeL e).length ≤ b) → lsum l ≤ l.length * (b + 1)
  | [], _ => by simp [lsum]
  | e :: l, h => by
    have ih := lsum_le l fun x hx => h x (List.mem_cons_of_mem _ hx)
    have h1 := h e List.mem_cons_self
    rw [lsum, List.length_cons, Nat.succ_mul]
    omega
theorem behind_length (l : List (List Ins)) : (behind l).length = l.length := by unfold behind; rw [List.length_map]
theorem made_length (l : List (List Ins)) : (madeL l).length = l.length := by unfold madeL; rw [List.length_map]
theorem behind_turn {n : Nat} {e : List Ins} (h : e ∈ behind (turns n)) : ∃ j, j < n ∧ e = ringHead ++ turnP n j := by
  obtain ⟨p, hp, rfl⟩ := List.mem_map.1 h
  obtain ⟨j, hj, rfl⟩ := List.mem_map.1 hp
  exact ⟨j, List.mem_range.1 hj, rfl⟩
theorem okp_behind_turn (n j : Nat) (hn : 0 < n) (h : n ≤ 40) : OKP (ringHead ++ turnP n j) := by
  have hm : (j + 1) % n < n := Nat.mod_lt _ hn
  refine okp_iff.2 ⟨by unfold turnP; simp [ringHead]; omega, ?_, vi_append vi_ringHead (vi_turn n j)⟩
  rw [sizes_append, turn_size]
  have := head_sizes
  omega
theorem lsum8 (n : Nat) (hn : 0 < n) (h : n ≤ 8) : lsum (behind (turns n)) ≤ 48008 := by
  have h1 := lsum_le (b := 6000) (behind (turns n)) fun e he => by
    obtain ⟨j, _, rfl⟩ := behind_turn he
    exact code8 n j hn h
  rw [behind_length, turns_length] at h1
  have : n * (6000 + 1) ≤ 8 * 6001 := Nat.mul_le_mul_right _ h
  omega
theorem good8 (n : Nat) (hn : 0 < n) (h : n ≤ 8) : GoodL (behind (turns n)) := by
  refine ⟨fun e he => ?_, by have := lsum8 n hn h; omega⟩
  obtain ⟨j, _, rfl⟩ := behind_turn he
  exact okp_behind_turn n j hn (by omega)
theorem made8_okp (n : Nat) (hn : 0 < n) (h : n ≤ 8) : ∀ e ∈ madeL (behind (turns n)), OKP e ∧ (codeL e).length ≤ 55000 := by
  intro e he
  have hg := good8 n hn h
  have hy : (bs (tabL (behind (turns n)))).size ≤ 48009 := by rw [bs_size, tabL_length]; have := lsum8 n hn h; omega
  have hv := vi_specHead (validT_tab hg)
  have hY : (dec (tabL (behind (turns n)))).size ≤ 48009 := by
    have hT : IsT (tabL (behind (turns n))) := by have := (validT_tab hg).2; rwa [bl_bs] at this
    rw [← Tr.enc_length, enc_dec hT, tabL_length]
    have := lsum8 n hn h
    omega
  obtain ⟨r, hr, rfl⟩ := List.mem_map.1 he
  obtain ⟨j, hj, rfl⟩ := behind_turn hr
  have hm : (j + 1) % n < n := Nat.mod_lt _ hn
  have hp : OKP (specHead (bs (tabL (behind (turns n)))) ++ (ringHead ++ turnP n j)) := by
    refine okp_iff.2 ⟨by unfold turnP; simp [ringHead, specHead]; omega, ?_, vi_append hv (okp_iff.1 (okp_behind_turn n j hn (by omega))).2.2⟩
    rw [sizes_append, sizes_append, turn_size, sizes_spec]
    have := head_sizes
    omega
  refine ⟨hp, ?_⟩
  have h4 := codeT_size (okp_behind_turn n j hn (by omega))
  have h5 := code8 n j hn h
  rw [← codeT_size hp, codeT_spec, bl_bs]
  generalize dec (tabL (behind (turns n))) = Y at *
  generalize codeT (ringHead ++ turnP n j) = c at *
  show 1 + (1 + 1 + (1 + 3 + Y.size)) + (1 + 13 + (1 + 7 + c.size)) ≤ 55000
  omega
/-- For at most eight nothing is too large. -/
theorem fine8 (n : Nat) (hn : 0 < n) (h : n ≤ 8) : Fine (turns n) := by
  refine ⟨good8 n hn h, fun e he => (made8_okp n hn h e he).1, ?_⟩
  have h1 := lsum_le (b := 55000) _ fun e he => (made8_okp n hn h e he).2
  rw [made_length, behind_length, turns_length] at h1
  have : n * (55000 + 1) ≤ 8 * 55001 := Nat.mul_le_mul_right _ h
  omega
/-- The programs of the ring. -/
def ringOf (n : Nat) : List (List Ins) := madeL (behind (turns n))
theorem ringOf_length (n : Nat) : (ringOf n).length = n := by unfold ringOf; rw [made_length, behind_length, turns_length]
theorem ringOf_at (n j : Nat) (hj : j < n) : (ringOf n)[j]'(by rw [ringOf_length]; exact hj) = specHead (bs (tabL (behind (turns n)))) ++ ringHead ++ turnP n j := by
  rw [List.append_assoc]
  unfold ringOf madeL
  rw [List.getElem_map]
  congr 1
  unfold behind
  rw [List.getElem_map]
  congr 1
  unfold turns
  rw [List.getElem_map, List.getElem_range]
/-- Each program of a ring returns the code of the next one. -/
theorem ring_run (n j : Nat) (hn : 0 < n) (h : n ≤ 40) (hf : Fine (turns n)) (hj : j < n) (x : Tr) (hz : 1 + (lstT ((ringOf n).map codeT)).size + x.size ≤ 2000000) :
    runM ((ringOf n)[j]'(by rw [ringOf_length]; exact hj)) x 2000 = (codeT ((ringOf n)[(j + 1) % n]'(by rw [ringOf_length]; exact Nat.mod_lt _ hn)), 26 + 11 * n + (j + 1) % n, 0) := by
  have hm : (j + 1) % n < n := Nat.mod_lt _ hn
  have hN : ∀ p ∈ turns n, ∀ x ∈ ringHead ++ p, Nice x := fun p hp => okp_nice (hf.1.1 _ (List.mem_map.2 ⟨p, hp, rfl⟩))
  have hmem : turnP n j ∈ turns n := List.mem_map.2 ⟨j, List.mem_range.2 hj, rfl⟩
  have hb := ring_begins (turns n) hN (turnP n j) hmem x hz
  rw [turns_length] at hb
  have hlen : ((ringOf n).map codeT).length = n := by rw [List.length_map, ringOf_length]
  have ht := turn_run n j ((ringOf n).map codeT) x hn hlen (2000 - (24 + 11 * n)) (by omega)
  have hr := run_behind (pre := specHead (bs (tabL (behind (turns n)))) ++ ringHead) (p := turnP n j) (m := 24 + 11 * n) (x := x) (y := .cons (lstT ((ringOf n).map codeT)) x) (fun i hi => by
    have := vi_turn n j i hi
    rw [List.getD_eq_getElem?_getD, List.getElem?_eq_getElem hi]
    exact this) hb (2000 - (24 + 11 * n))
  rw [ht] at hr
  rw [ringOf_at n j hj]
  rw [show 24 + 11 * n + (2000 - (24 + 11 * n)) = 2000 from by omega] at hr
  rw [hr]
  have hg : ((ringOf n).map codeT).getD ((j + 1) % n) .nil = codeT ((ringOf n)[(j + 1) % n]'(by rw [ringOf_length]; exact hm)) := by
    rw [List.getD_eq_getElem?_getD, List.getElem?_map, List.getElem?_eq_getElem (by rw [ringOf_length]; exact hm)]
    rfl
  rw [hg]
  simp only [if_true]
  congr 2
  omega
end Go.Proofs.YtocoamgbpoommaaGreatDoor.Plain
end
section
/- The contract of the law RingNext. -/
namespace Go.Proofs.YtocoamgbpoommaaGreatDoor.C
open Go.RowKit Go.Proofs.YtocoamgbpoommaaGreatDoorW.PrintWords Go.Proofs.YtocoamgbpoommaaGreatDoorW.PrintLast Go.Proofs.YtocoamgbpoommaaGreatDoorW.PrintMore
open Go.Proofs.YtocoamgbpoommaaGreatDoor.Plain (Tr dec bl OKP codeL codeT codeT_size lstT runM ValidT Fine turns ringOf ringOf_length ring_run ring_tells ring_arg together_yes together_large okp_turns turns_length fine8 refValid_tells okp_fits refValidp_yes tmod_nat)
set_option linter.unusedVariables false
set_option linter.unusedSimpArgs false

theorem lsum_mem {e : Prg} : ∀ {l : List Prg}, e ∈ l → (codeL e).length ≤ Plain.lsum l
  | x :: l, h => by
    rw [Plain.lsum]
    rcases List.mem_cons.1 h with rfl | h
    · omega
    · have := lsum_mem h; omega
theorem refValid_yes {x : ByteArray} (h : ValidT x) : narcissusref01_Valid.f 5000000 x = some true := by
  obtain ⟨v, e, hv⟩ := refValid_tells x 5000000 (by omega)
  rw [e, hv.2 h]
theorem refValid_no {x : ByteArray} (h : ¬ ValidT x) : narcissusref01_Valid.f 5000000 x = some false := by
  obtain ⟨v, e, hv⟩ := refValid_tells x 5000000 (by omega)
  cases v with
  | true => exact absurd (hv.1 rfl) h
  | false => exact e
theorem awake_calls (w : World) (hL : LaidW w) : Calls Tryz.prog 11 #[] w fun e w' => e = .returned (.bool true) ∧ Below w.heap.size w w' :=
  narcissuslaw08_awake.calls 16000 true w hL rfl
/-- What a law answers. -/
abbrev Yes (w : World) (e : Ending) (w' : World) : Prop := e = .returned (.bool true) ∧ Below w.heap.size w w'

set_option maxHeartbeats 2000000 in
set_option maxRecDepth 100000 in
theorem next_large (n : Int) (x : ByteArray) (w : World) (hL : LaidW w) (h : (x.size : Int) > 20000) : Calls Tryz.prog 6 #[.int .i64 n, .string x] w (Yes w) := by
  have t1 : decide (20000 < (x.size : Int)) = true := decide_eq_true h
  have HL := Aside0.mk hL
  clear hL
  go_enter Tryz.func6, Tryz.ntmps6
  go_wp2_with (go_at_call 11; refine (awake_calls _ HL.out).mono ?_; rintro e w1 ⟨rfl, hb⟩; have HB := Aside0.mk hb; clear hb)
  go_ret
  exact ⟨rfl, HB.out⟩
set_option maxHeartbeats 2000000 in
set_option maxRecDepth 100000 in
theorem next_wrong (n : Int) (x : ByteArray) (w : World) (hL : LaidW w) (h : ¬ (x.size : Int) > 20000) (hv : ¬ ValidT x) : Calls Tryz.prog 6 #[.int .i64 n, .string x] w (Yes w) := by
  have t1 : decide (20000 < (x.size : Int)) = false := decide_eq_false h
  have HL := Aside0.mk hL
  have HV := Aside0.mk (refValid_no hv)
  clear hL hv
  go_enter Tryz.func6, Tryz.ntmps6
  go_wp2_with (first
    | (go_at_call 20; refine (narcissusref01_Valid.calls 5000000 x false _ HV.out).mono ?_; rintro e w1 ⟨rfl, nq, rfl⟩)
    | (go_at_call 11; refine (awake_calls _ (HL.out.drewN nq)).mono ?_; rintro e w2 ⟨rfl, hb⟩; have HB := Aside0.mk hb; clear hb))
  go_ret
  exact ⟨rfl, below_then (pw_below_drewN (Below.refl _ _) nq) (Nat.le_refl _) HB.out⟩
set_option maxHeartbeats 4000000 in
set_option maxRecDepth 100000 in
/-- Ring's error: what the law answers. -/
theorem next_err (n : Int) (x : ByteArray) (w : World) (hL : LaidW w) (h : ¬ (x.size : Int) > 20000) (hv : ValidT x) (k : Nat) (ev : Int) (hr : ring_Ring.f k n = some ([], ev)) (he : (ev = 2 ∧ n < 1) ∨ (ev = 2 ∧ ¬ n < 1 ∧ 40 < n) ∨ (ev = 3 ∧ 8 < n ∧ n ≤ 40)) :
    Calls Tryz.prog 6 #[.int .i64 n, .string x] w (Yes w) := by
  have t1 : decide (20000 < (x.size : Int)) = false := decide_eq_false h
  have HL := Aside0.mk hL
  have HV := Aside0.mk (refValid_yes hv)
  have HR := Aside0.mk hr
  clear hL hv hr
  rcases he with ⟨rfl, h1⟩ | ⟨rfl, h1, h2⟩ | ⟨rfl, h1, h2⟩
  · have t2 : decide (n < 1) = true := decide_eq_true h1
    go_enter Tryz.func6, Tryz.ntmps6
    go_wp2_with (first
      | (go_at_call 20; refine (narcissusref01_Valid.calls 5000000 x true _ HV.out).mono ?_; rintro e w1 ⟨rfl, nq, rfl⟩)
      | (go_at_call 19; refine (ring_Ring.calls k n [] _ _ (HL.out.drewN nq) HR.out).mono ?_; rintro e' w2 ⟨vl, rfl, hs, hb⟩; have HB := Aside0.mk (below_then (pw_below_drewN (Below.refl _ _) nq) (Nat.le_refl _) hb); clear hs hb)
      | (go_at_call 11; refine (awake_calls _ (HL.out.below HB.out)).mono ?_; rintro e w3 ⟨rfl, hb⟩; have HB2 := Aside0.mk (below_then HB.out HB.out.size hb); clear hb))
    go_ret
    exact ⟨rfl, HB2.out⟩
  · have t2 : decide (n < 1) = false := decide_eq_false h1
    have t3 : decide (40 < n) = true := decide_eq_true h2
    go_enter Tryz.func6, Tryz.ntmps6
    go_wp2_with (first
      | (go_at_call 20; refine (narcissusref01_Valid.calls 5000000 x true _ HV.out).mono ?_; rintro e w1 ⟨rfl, nq, rfl⟩)
      | (go_at_call 19; refine (ring_Ring.calls k n [] _ _ (HL.out.drewN nq) HR.out).mono ?_; rintro e' w2 ⟨vl, rfl, hs, hb⟩; have HB := Aside0.mk (below_then (pw_below_drewN (Below.refl _ _) nq) (Nat.le_refl _) hb); clear hs hb)
      | (go_at_call 11; refine (awake_calls _ (HL.out.below HB.out)).mono ?_; rintro e w3 ⟨rfl, hb⟩; have HB2 := Aside0.mk (below_then HB.out HB.out.size hb); clear hb))
    go_ret
    exact ⟨rfl, HB2.out⟩
  · have t2 : decide (8 < n) = true := decide_eq_true h1
    have t3 : decide (n ≤ 40) = true := decide_eq_true h2
    go_enter Tryz.func6, Tryz.ntmps6
    go_wp2_with (first
      | (go_at_call 20; refine (narcissusref01_Valid.calls 5000000 x true _ HV.out).mono ?_; rintro e w1 ⟨rfl, nq, rfl⟩)
      | (go_at_call 19; refine (ring_Ring.calls k n [] _ _ (HL.out.drewN nq) HR.out).mono ?_; rintro e' w2 ⟨vl, rfl, hs, hb⟩; have HB := Aside0.mk (below_then (pw_below_drewN (Below.refl _ _) nq) (Nat.le_refl _) hb); clear hs hb)
      | (go_at_call 11; refine (awake_calls _ (HL.out.below HB.out)).mono ?_; rintro e w3 ⟨rfl, hb⟩; have HB2 := Aside0.mk (below_then HB.out HB.out.size hb); clear hb))
    go_ret
    exact ⟨rfl, HB2.out⟩
end Go.Proofs.YtocoamgbpoommaaGreatDoor.C
end
section
/- The contract of spoil: it overwrites programs of the call's own, and nothing that was there before. -/
namespace Go.Proofs.YtocoamgbpoommaaGreatDoor.C
open Go.RowKit Go.Proofs.YtocoamgbpoommaaGreatDoorW.PrintWords Go.Proofs.YtocoamgbpoommaaGreatDoorW.PrintLast Go.Proofs.YtocoamgbpoommaaGreatDoorW.PrintMore
set_option linter.unusedVariables false
set_option linter.unusedSimpArgs false

/-- A row of instructions of the call's own, of so many. -/
def RowI (w : World) (base : Nat) (A : Option Addr) (n : Nat) : Prop := n = 0 ∨ ∃ h cells, A = some ⟨h, 0, none⟩ ∧ base ≤ h ∧ w.heap[h]? = some (.cells cells 72 (0, 0)) ∧ n * 5 ≤ cells.size
/-- Programs of the call's own, by their lengths. -/
def RowsI (w : World) (base : Nat) (cur : Array Value) (ls : List Nat) : Prop := ∀ i (h : i < ls.length), ∃ A c, cur[i]? = some (.slice A ls[i] c) ∧ RowI w base A ls[i]
theorem RowI.of_R {w : World} {base : Nat} {ok : Nat → Prop} {v : Value} {p : Prg} (h : Kd.R k72 72 w base ok v p) : ∃ A c, v = .slice A p.length c ∧ RowI w base A p.length := by
  obtain ⟨_, inner, ho, _⟩ := h
  obtain ⟨h1, h2⟩ := ho
  rcases h2 with ⟨rfl, hn⟩ | ⟨g, cap, cur, rfl, hg, hh, hc, _, hs, _⟩
  · rw [hn]; exact ⟨none, 0, rfl, .inl rfl⟩
  · refine ⟨_, cap, rfl, .inr ⟨g, cur, rfl, hg, hh, ?_⟩⟩
    rw [hs]
    exact Nat.mul_le_mul_right _ hc
theorem RowsI.of_S {w : World} {base : Nat} {v : Value} {L : List Prg} (h : Kd.S (Kd.slice 72 k72) 47 w base (fun _ => True) v L) :
    (v = .slice none 0 0 ∧ L = []) ∨ ∃ g cap cur, v = .slice (some ⟨g, 0, none⟩) L.length cap ∧ base ≤ g ∧ w.heap[g]? = some (.cells cur 47 (0, 0)) ∧ RowsI w base cur (L.map List.length) := by
  obtain ⟨_, inner, ho, hr⟩ := Kd.S_R h
  obtain ⟨h1, h2⟩ := ho
  rcases h2 with ⟨rfl, hn⟩ | ⟨g, cap, cur, rfl, hg, hh, hc, _, hs, ht⟩
  · exact .inl ⟨rfl, List.length_eq_zero_iff.1 hn⟩
  · refine .inr ⟨g, cap, cur, rfl, hg, hh, fun i hi => ?_⟩
    rw [List.length_map] at hi
    have h3 := hr.2 i L[i] (List.getElem?_eq_getElem hi)
    obtain ⟨u, hu, hR⟩ := h3
    obtain ⟨A, c, rfl, hrow⟩ := RowI.of_R hR
    refine ⟨A, c, ?_, by rw [List.getElem_map]; exact hrow⟩
    rw [List.getElem_map, ← Array.getElem?_toList]
    have hsz : (Kd.slice 72 k72).sz = 1 := rfl
    rw [hsz] at hu ht
    rw [Nat.mul_one] at hu ht
    have : (inner.drop i)[0]? = some (.slice A L[i].length c) := by
      have := congrArg (fun l => l[0]?) hu
      simpa using this
    rw [List.getElem?_drop, Nat.add_zero, ← ht, List.getElem?_take, if_pos hi] at this
    exact this
theorem RowI.set {w : World} {base h : Nat} {cells : Array Value} {A : Option Addr} {n : Nat} (hr : RowI w base A n) (hh : w.heap[h]? = some (.cells cells 72 (0, 0))) (j : Nat) (u : Value) : RowI (w.setCell ⟨h, j, none⟩ u) base A n := by
  rcases hr with h0 | ⟨h', cells', rfl, h1, h2, h3⟩
  · exact .inl h0
  · by_cases e : h' = h
    · subst e
      exact .inr ⟨h', _, rfl, h1, blk_set h2 j u, by simpa using h3⟩
    · exact .inr ⟨h', _, rfl, h1, blk_far h2 (p := ⟨h, j, none⟩) e u, h3⟩
theorem RowsI.set {w : World} {base h : Nat} {cells cur : Array Value} {ls : List Nat} (hr : RowsI w base cur ls) (hh : w.heap[h]? = some (.cells cells 72 (0, 0))) (j : Nat) (u : Value) : RowsI (w.setCell ⟨h, j, none⟩ u) base cur ls := fun i hi => by
  obtain ⟨A, c, h1, h2⟩ := hr i hi
  exact ⟨A, c, h1, h2.set hh j u⟩
theorem RowsI.set5 {w : World} {base h : Nat} {cells cur : Array Value} {ls : List Nat} (hr : RowsI w base cur ls) (hh : w.heap[h]? = some (.cells cells 72 (0, 0))) (j0 j1 j2 j3 j4 : Nat) (u0 u1 u2 u3 u4 : Value) :
    RowsI (((((w.setCell ⟨h, j0, none⟩ u0).setCell ⟨h, j1, none⟩ u1).setCell ⟨h, j2, none⟩ u2).setCell ⟨h, j3, none⟩ u3).setCell ⟨h, j4, none⟩ u4) base cur ls := by
  have b0 := blk_set hh j0 u0
  have b1 := blk_set b0 j1 u1
  have b2 := blk_set b1 j2 u2
  have b3 := blk_set b2 j3 u3
  exact ((((hr.set hh j0 u0).set b0 j1 u1).set b1 j2 u2).set b2 j3 u3).set b3 j4 u4
set_option maxHeartbeats 2000000 in
set_option maxRecDepth 100000 in
theorem spoil_go (g cap base : Nat) (cur : Array Value) (ls : List Nat) (w : World) (hg : base ≤ g) (hh : w.heap[g]? = some (.cells cur 47 (0, 0))) (hr : RowsI w base cur ls) (hl : ls.length ≤ 1000000) (hz : ∀ n ∈ ls, n ≤ 1000000) :
    Calls Tryz.prog 17 #[.slice (some ⟨g, 0, none⟩) ls.length cap] w fun e w' => e = .returned (.tuple #[]) ∧ Below base w w' := by
  obtain ⟨m, hm⟩ : ∃ m, ls.length = m := ⟨_, rfl⟩
  rw [hm] at hl ⊢
  have HG := Aside0.mk hg
  have HZ := Aside0.mk hz
  have HM := Aside0.mk hm
  have HH := Aside0.mk hh
  have HR := Aside0.mk hr
  clear hg hh hr hz hm
  go_enter Tryz.func17, Tryz.ntmps17
  go_wp2
  go_loopg [2] (m + 1) (fun kq v2 wr => ∃ i : Nat, v2 = .int .i64 i ∧ i ≤ m ∧ Aside0 (kq = m - i + 1) ∧ Aside0 (Below base w wr) ∧ Aside0 (wr.heap[g]? = some (.cells cur 47 (0, 0))) ∧ Aside0 (RowsI wr base cur ls))
  case atStart => exact ⟨0, rfl, Nat.zero_le _, ⟨by omega⟩, ⟨Below.refl _ _⟩, HH, HR⟩
  case round =>
    clear HH HR
    obtain ⟨i, rfl, hi, HI, HB, HH, HR⟩ := hrel
    by_cases hlt : i < m
    · obtain ⟨A, c, hc, hrow⟩ := HR.out i (by rw [HM.out]; exact hlt)
      have b2 : (i : Int) < (m : Int) := by omega
      have b3 : (0 : Int) ≤ (i : Int) := by omega
      obtain ⟨n, hn⟩ : ∃ n, n = ls[i]'(by rw [HM.out]; exact hlt) := ⟨_, rfl⟩
      have hnz : n ≤ 1000000 := by rw [hn]; exact HZ.out _ (List.getElem_mem _)
      rw [← hn] at hc hrow
      have HN := Aside0.mk hn
      obtain ⟨k2, rfl⟩ : ∃ k2, gk = k2 + 1 := ⟨gk - 1, by have := HI.out; omega⟩
      clear hn hrow
      go_wp2
      go_loopg [3] (n + 1) (fun kq v3 wq => ∃ k : Nat, v3 = .int .i64 k ∧ k ≤ n ∧ Aside0 (kq = n - k + 1) ∧ Aside0 (Below base w wq) ∧ Aside0 (wq.heap[g]? = some (.cells cur 47 (0, 0))) ∧ Aside0 (RowsI wq base cur ls))
      case atStart => exact ⟨0, rfl, Nat.zero_le _, ⟨by omega⟩, HB, HH, HR⟩
      case round =>
        clear HB HH HR
        obtain ⟨k, rfl, hk, HK, HB, HH, HR⟩ := hrel
        have cl := (blk_cell HH.out i).trans hc
        by_cases hkn : k < n
        · have b4 : (k : Int) < (n : Int) := by omega
          have b5 : (0 : Int) ≤ (k : Int) := by omega
          obtain ⟨A', c', hc', hrow⟩ := HR.out i (by rw [HM.out]; exact hlt)
          rw [← HN.out] at hc' hrow
          rw [hc] at hc'
          injection hc' with hc'
          injection hc' with e1 e2 e3
          subst e1
          rcases hrow with h0 | ⟨h, cells, rfl, hbh, hhc, hsz⟩
          · omega
          have hin : ∀ j, j < 5 → wr.cell? ⟨h, k * 5 + j, none⟩ = some (cells.getD (k * 5 + j) (.bool false)) := fun j hj => by
            have hlt' : k * 5 + j < cells.size := by omega
            rw [blk_cell hhc, Array.getElem?_eq_getElem hlt', Array.getD_eq_getD_getElem?, Array.getElem?_eq_getElem hlt']
            rfl
          have d0 := hin 0 (by omega)
          have d1 := hin 1 (by omega)
          have d2 := hin 2 (by omega)
          have d3 := hin 3 (by omega)
          have d4 := hin 4 (by omega)
          rw [Nat.add_zero] at d0
          have f0 := blk_frozen hhc (k * 5)
          have f1 := blk_frozen hhc (k * 5 + 1)
          have f2 := blk_frozen hhc (k * 5 + 2)
          have f3 := blk_frozen hhc (k * 5 + 3)
          have f4 := blk_frozen hhc (k * 5 + 4)
          have HBH := Aside0.mk hbh
          have HHC := Aside0.mk hhc
          clear hbh hhc hsz hin
          go_wp2
          obtain ⟨k3, rfl⟩ : ∃ k3, gk = k3 + 1 := ⟨gk - 1, by have := HK.out; omega⟩
          go_roundg k3
          case measure => omega
          case rel =>
            have hne : g ≠ h := fun e => by
              subst e
              have h1 := HH.out
              rw [HHC.out] at h1
              injection h1 with h1
              injection h1 with _ h1
              exact absurd h1 (by decide)
            exact ⟨k + 1, by go_num, by omega, ⟨by have := HK.out; omega⟩,
              ⟨((((HB.out.setCell (p := ⟨h, k * 5, none⟩) HBH.out _).setCell (p := ⟨h, k * 5 + 1, none⟩) HBH.out _).setCell (p := ⟨h, k * 5 + 2, none⟩) HBH.out _).setCell (p := ⟨h, k * 5 + 3, none⟩) HBH.out _).setCell (p := ⟨h, k * 5 + 4, none⟩) HBH.out _⟩,
              ⟨blk_far (blk_far (blk_far (blk_far (blk_far HH.out (p := ⟨h, k * 5, none⟩) hne _) (p := ⟨h, k * 5 + 1, none⟩) hne _) (p := ⟨h, k * 5 + 2, none⟩) hne _) (p := ⟨h, k * 5 + 3, none⟩) hne _) (p := ⟨h, k * 5 + 4, none⟩) hne _⟩,
              ⟨HR.out.set5 HHC.out _ _ _ _ _ _ _ _ _ _⟩⟩
        · obtain rfl : k = n := by omega
          go_wp2
          go_roundg k2
          case measure => omega
          case rel => exact ⟨i + 1, by go_num, by omega, ⟨by have := HI.out; omega⟩, HB, HH, HR⟩
    · obtain rfl : i = m := by omega
      go_wp2
      exact ⟨rfl, .tuple #[], by simp [results, Tryz.results17, go_sem], rfl, HB.out⟩
set_option maxHeartbeats 1000000 in
theorem spoil_nil (w : World) : Calls Tryz.prog 17 #[.slice none 0 0] w fun e w' => e = .returned (.tuple #[]) ∧ w = w' := by
  go_enter Tryz.func17, Tryz.ntmps17
  go_wp2
  go_loopg [2] 1 (fun kq v2 wr => v2 = .int .i64 0 ∧ wr = w)
  case atStart => exact ⟨rfl, rfl⟩
  case round =>
    obtain ⟨rfl, rfl⟩ := hrel
    go_wp2
    exact ⟨rfl, .tuple #[], by simp [results, Tryz.results17, go_sem], rfl, rfl⟩
/-- What spoil may overwrite. -/
def Spo (w : World) (base : Nat) (v : Value) (L : List Prg) : Prop :=
  (v = .slice none 0 0 ∧ L = []) ∨ ∃ g cap cur, v = .slice (some ⟨g, 0, none⟩) L.length cap ∧ base ≤ g ∧ w.heap[g]? = some (.cells cur 47 (0, 0)) ∧ RowsI w base cur (L.map List.length)
theorem RowsI.below {w w' : World} {base : Nat} {cur : Array Value} {ls : List Nat} (h : RowsI w base cur ls) (hb : Below w.heap.size w w') : RowsI w' base cur ls := fun i hi => by
  obtain ⟨A, c, h1, h2⟩ := h i hi
  refine ⟨A, c, h1, ?_⟩
  rcases h2 with h0 | ⟨h', cells', rfl, h1, h2, h3⟩
  · exact .inl h0
  · exact .inr ⟨h', _, rfl, h1, (hb.block _ (blk_lt h2)).trans h2, h3⟩
theorem Spo.below {w w' : World} {base : Nat} {v : Value} {L : List Prg} (h : Spo w base v L) (hb : Below w.heap.size w w') : Spo w' base v L := by
  rcases h with h | ⟨g, cap, cur, rfl, hg, hh, hr⟩
  · exact .inl h
  · exact .inr ⟨g, cap, cur, rfl, hg, (hb.block _ (blk_lt hh)).trans hh, hr.below hb⟩
theorem spoil_calls (v : Value) (L : List Prg) (w : World) (base : Nat) (h : Spo w base v L) (hl : L.length ≤ 1000000) (hz : ∀ p ∈ L, p.length ≤ 1000000) :
    Calls Tryz.prog 17 #[v] w fun e w' => e = .returned (.tuple #[]) ∧ Below base w w' := by
  rcases h with ⟨rfl, rfl⟩ | ⟨g, cap, cur, rfl, hg, hh, hr⟩
  · refine (spoil_nil w).mono ?_
    rintro e w' ⟨rfl, rfl⟩
    exact ⟨rfl, Below.refl _ _⟩
  · have := spoil_go g cap base cur (L.map List.length) w hg hh hr (by rw [List.length_map]; exact hl) (fun n hn => by obtain ⟨p, hp, rfl⟩ := List.mem_map.1 hn; exact hz p hp)
    rw [List.length_map] at this
    exact this
end Go.Proofs.YtocoamgbpoommaaGreatDoor.C
end
section
namespace Go.Proofs.YtocoamgbpoommaaGreatDoor.C
open Go.RowKit Go.Proofs.YtocoamgbpoommaaGreatDoorW.PrintWords Go.Proofs.YtocoamgbpoommaaGreatDoorW.PrintLast Go.Proofs.YtocoamgbpoommaaGreatDoorW.PrintMore
attribute [local go_sem] max2_int min2_int max_two min_two max_three min_three max_four min_four
set_option linter.unusedVariables false
set_option linter.unusedSimpArgs false

/-! ### narcissusref07_Small: function 10 -/
def narcissusref07_Small.l0 : Nat → Int → List (List (S72)) → Int → Int → Option (Bool)
 | 0, _, _, _, _ => none
 | k + 1, x0, x1, x5, x6 => if x6 < (x1.length : Int) then (if 0 ≤ x6 then (if (wrap64 ((wrap64 (x5 + 1)) + ((rd_L3 x1 x6).length : Int))) > x0 then (some false) else ((narcissusref02_Trees.f k (rd_L3 x1 x6)).bind fun t3 => (narcissusref07_Small.l0 k x0 x1 (wrap64 ((wrap64 ((wrap64 (x5 + 1)) + ((rd_L3 x1 x6).length : Int))) + t3)) (wrap64 (x6 + 1))))) else (none)) else (some (decide (x5 ≤ x0)))
def narcissusref07_Small.f (k : Nat) (a0 : Int) (l1 : List (List (S72))) : Option (Bool) := narcissusref07_Small.l0 k a0 l1 0 0
theorem narcissusref07_Small.mono_l : ∀ k, (∀ y0 y1 y2 y3, LeO (narcissusref07_Small.l0 k y0 y1 y2 y3) (narcissusref07_Small.l0 (k + 1) y0 y1 y2 y3))
 | 0 => fun _ _ _ _ r h => by simp [narcissusref07_Small.l0] at h
 | k + 1 => by
  have ih0 := narcissusref07_Small.mono_l k
  ·intro y0 y1 y2 y3
   unfold narcissusref07_Small.l0
   repeat' first
   | (with_reducible exact ih0 _ _ _ _)
   | (with_reducible exact narcissusref02_Trees.mono _ _)
   | (with_reducible exact LeO.refl _)
   | (with_reducible exact LeO.none _)
   | (with_reducible refine LeO.ite ?_ ?_)
   | (with_reducible refine LeO.bind ?_ (fun _ => ?_))
   | exact ih0 _ _ _ _
   | exact narcissusref02_Trees.mono _ _
   | exact LeO.none _
   | refine LeO.ite ?_ ?_
   | refine LeO.bind ?_ (fun _ => ?_)
theorem narcissusref07_Small.mono : ∀ a0 a1 k, LeO (narcissusref07_Small.f k a0 a1) (narcissusref07_Small.f (k + 1) a0 a1) := by
 intro a0 a1 k
 have ih0 := narcissusref07_Small.mono_l k
 unfold narcissusref07_Small.f
 repeat' first
   | (with_reducible exact ih0 _ _ _ _)
   | (with_reducible exact narcissusref02_Trees.mono _ _)
   | (with_reducible exact LeO.refl _)
   | (with_reducible exact LeO.none _)
   | (with_reducible refine LeO.ite ?_ ?_)
   | (with_reducible refine LeO.bind ?_ (fun _ => ?_))
   | exact ih0 _ _ _ _
   | exact narcissusref02_Trees.mono _ _
   | exact LeO.none _
   | refine LeO.ite ?_ ?_
   | refine LeO.bind ?_ (fun _ => ?_)
set_option maxHeartbeats 8000000 in
set_option maxRecDepth 100000 in
theorem narcissusref07_Small.calls (k : Nat) (a0 : Int) (A1 : Option Addr) (c1 : Nat) (l1 : List (List (S72))) (r : Bool) (w : World) (hr1 : Kd.C (Kd.slice 72 k72) w A1 l1.length l1) (hc1 : l1.length ≤ c1) (h : narcissusref07_Small.f k a0 l1 = some r) :
  Calls Tryz.prog 10 #[.int .i64 a0, .slice A1 l1.length c1] w fun e w' => e = .returned (.bool r) ∧ Drawn0 w w' := by
 have HR1 := Aside0.mk hr1
 have HC1 := Aside0.mk hc1
 clear hr1 hc1
 have H : (narcissusref07_Small.l0 k a0 l1 0 0) = some r := h
 clear h
 have H' := Aside0.mk H
 clear H
 go_enter Tryz.func10, Tryz.ntmps10
 go_wp2
 go_loopg [5, 6] k (fun kq v5 v6 w' => ∃ (x5_1 : Int) (x6_1 : Int), v5 = .int .i64 x5_1 ∧ v6 = .int .i64 x6_1 ∧ Aside0 (narcissusref07_Small.l0 kq a0 l1 x5_1 x6_1 = some r) ∧ Aside0 (kq ≤ k) ∧ Drawn0 w w')
 case atStart => exact ⟨(0), (0), (by first | rfl | (simp; done) | (simp [*]; done)), (by first | rfl | (simp; done) | (simp [*]; done)), H', ⟨Nat.le_refl _⟩, by repeat (first | exact Drawn0.refl _ | apply Drawn0.step)⟩
 case round =>
  clear H'
  try clear c1
  try clear p2
  obtain ⟨x5_1, x6_1, rfl, rfl, HA, HK1, ⟨m1, rfl⟩⟩ := hrel
  cases gk with
  | zero => exact absurd HA.out (by simp [narcissusref07_Small.l0])
  | succ k1 =>
   have H := HA.out
   clear HA
   simp only [narcissusref07_Small.l0] at H
   by_cases c3 : x6_1 < (l1.length : Int)
   ·rw [if_pos c3] at H
    have c3b0 : decide (x6_1 < (l1.length : Int)) = true := decide_eq_true c3
    clear c3
    by_cases c4 : 0 ≤ x6_1
    ·rw [if_pos c4] at H
     have c4b0 : decide (0 ≤ x6_1) = true := decide_eq_true c4
     clear c4
     by_cases c5 : (wrap64 ((wrap64 (x5_1 + 1)) + ((rd_L3 l1 x6_1).length : Int))) > a0
     ·rw [if_pos c5] at H
      have c5b0 : decide (a0 < (wrap64 ((wrap64 (x5_1 + 1)) + ((rd_L3 l1 x6_1).length : Int)))) = true := decide_eq_true c5
      clear c5
      obtain rfl := Option.some.inj H
      have p1 : 0 ≤ (x6_1 : Int) := of_decide_eq_true (by first | (with_reducible assumption) | assumption)
      have q1 : x6_1 < (l1.length : Int) := of_decide_eq_true (by first | (with_reducible assumption) | assumption)
      obtain ⟨ad1, A1_0, c1_0, e1, hx1_0, hl1_0, hi1_0⟩ := at_L3 HR1.out x6_1 p1 q1
      cases e1
      have HR1_0 := Aside0.mk hi1_0
      have HC1_0 := Aside0.mk hl1_0
      clear hi1_0 hl1_0
      replace p1 := eq_true p1
      replace q1 := eq_true q1
      go_wp2
      go_ret
      exact ⟨by first | rfl | (simp; done) | (simp [*]; done) | (simp [show ∀ l : List UInt8, (l != []) = !l.isEmpty from fun l => by cases l <;> rfl]; done), by repeat (first | exact Drawn0.refl _ | apply Drawn0.step)⟩
     ·rw [if_neg c5] at H
      have c5b0 : decide (a0 < (wrap64 ((wrap64 (x5_1 + 1)) + ((rd_L3 l1 x6_1).length : Int)))) = false := decide_eq_false c5
      clear c5
      replace H := Option.bind_eq_some_iff.mp H
      obtain ⟨t3, A60, H⟩ := H
      replace H : (narcissusref07_Small.l0 k1 a0 l1 (wrap64 ((wrap64 ((wrap64 (x5_1 + 1)) + ((rd_L3 l1 x6_1).length : Int))) + t3)) (wrap64 (x6_1 + 1))) = some r := H
      have A6 := Aside0.mk A60
      clear A60
      have H' := Aside0.mk H
      clear H
      have p1 : 0 ≤ (x6_1 : Int) := of_decide_eq_true (by first | (with_reducible assumption) | assumption)
      have q1 : x6_1 < (l1.length : Int) := of_decide_eq_true (by first | (with_reducible assumption) | assumption)
      obtain ⟨ad1, A1_0, c1_0, e1, hx1_0, hl1_0, hi1_0⟩ := at_L3 HR1.out x6_1 p1 q1
      cases e1
      have HR1_0 := Aside0.mk hi1_0
      have HC1_0 := Aside0.mk hl1_0
      clear hi1_0 hl1_0
      replace p1 := eq_true p1
      replace q1 := eq_true q1
      have p2 : 0 ≤ (x6_1 : Int) := of_decide_eq_true (by first | (with_reducible assumption) | assumption)
      have q2 : x6_1 < (l1.length : Int) := of_decide_eq_true (by first | (with_reducible assumption) | assumption)
      obtain ⟨ad2, A2_0, c2_0, e2, hx2_0, hl2_0, hi2_0⟩ := at_L3 HR1.out x6_1 p2 q2
      obtain rfl : ad1 = ad2 := (by injection e2)
      have HR2_0 := Aside0.mk hi2_0
      have HC2_0 := Aside0.mk hl2_0
      clear hi2_0 hl2_0
      replace p2 := eq_true p2
      replace q2 := eq_true q2
      have ea_ := Option.some.inj (hx1_0.symm.trans hx2_0)
      injection ea_ with ea_ en_ ec_
      subst ea_
      subst ec_
      clear en_
      go_wp2_with (first | ((with_reducible refine gate_callee (f := 36) rfl ?_); refine goesL_ (some 29) rfl rfl Tryz.func36 (by kernel_rfl) rfl #[.slice A1_0 (rd_L3 l1 x6_1).length c1_0] rfl (by (try simp only [List.map_toArray, List.map_cons, List.map_nil]); first | done | rfl | (simp only [List.length_drop, List.length_take]; rfl)) ?_; (with_reducible refine (narcissusref02_Trees.calls k1 _ _ (rd_L3 l1 x6_1) t3 _ ?side1 ?side2 A6.out).mono ?_); (case side1 => repeat (first | exact HR2_0.out | (with_reducible refine Kd.C_alloc ?_ _) | (with_reducible refine Kd.C_drewN ?_ _) | (with_reducible refine Kd.C_drew ?_))); (case side2 => exact HC2_0.out); rintro e w' ⟨rfl, ⟨nd, rfl⟩⟩; refine ⟨_, rfl, ?_⟩))
      go_roundg k1
      case measure => have := HK1.out; omega
      case rel => exact ⟨(wrap64 ((wrap64 ((wrap64 (x5_1 + 1)) + ((rd_L3 l1 x6_1).length : Int))) + t3)), (wrap64 (x6_1 + 1)), (by first | rfl | (simp; done) | (simp [*]; done)), (by first | rfl | (simp; done) | (simp [*]; done)), H', ⟨by have := HK1.out; omega⟩, by repeat (first | exact Drawn0.refl _ | apply Drawn0.step)⟩
    ·rw [if_neg c4] at H
     exact absurd H (by simp)
   ·rw [if_neg c3] at H
    have c3b0 : decide (x6_1 < (l1.length : Int)) = false := decide_eq_false c3
    clear c3
    obtain rfl := Option.some.inj H
    go_wp2
    go_ret
    exact ⟨by first | rfl | (simp; done) | (simp [*]; done) | (simp [show ∀ l : List UInt8, (l != []) = !l.isEmpty from fun l => by cases l <;> rfl]; done), by repeat (first | exact Drawn0.refl _ | apply Drawn0.step)⟩

end Go.Proofs.YtocoamgbpoommaaGreatDoor.C
end
