/- Texts of this claim, together: what the functions return, and what they say in plain words. -/
import Derived.Test.YtpnmmpfidiegcaaGreatDoorUQ
import Derived.Test.YtpnmmpfidiegcaaGreatDoorUJ
import Derived.Test.YtpnmmpfidiegcaaGreatDoorUR
import Derived.Test.YtpnmmpfidiegcaaGreatDoorUL
import Derived.Test.YtpnmmpfidiegcaaGreatDoorUB
import Derived.Test.YtpnmmpfidiegcaaGreatDoorUF
import Derived.Test.YtpnmmpfidiegcaaGreatDoorUP
import Derived.Test.YtpnmmpfidiegcaaGreatDoorUI
import Derived.Test.YtpnmmpfidiegcaaGreatDoorUM
import Derived.Test.YtpnmmpfidiegcaaGreatDoorUN
section
namespace Go.Proofs.YtpnmmpfidiegcaaGreatDoor.Plain
open Go.Proofs.YtpnmmpfidiegcaaGreatDoor.C
open Go.RowKit Go.Proofs.YtpnmmpfidiegcaaGreatDoorW.PrintWords Go.Proofs.YtpnmmpfidiegcaaGreatDoorW.PrintLast Go.Proofs.YtpnmmpfidiegcaaGreatDoorW.PrintMore
set_option linter.unusedVariables false
set_option linter.unusedSimpArgs false
abbrev iHead : Ins := ⟨3, 0, 0, 0, ⟨#[]⟩⟩
abbrev iTail : Ins := ⟨4, 0, 0, 0, ⟨#[]⟩⟩
def turns (n : Nat) : List (List Ins) := (List.range n).map (turnP n)
theorem turns_length (n : Nat) : (turns n).length = n := by unfold turns; simp
theorem tmod_nat (a n : Nat) : Int.tmod (a : Int) (n : Int) = ((a % n : Nat) : Int) := rfl
theorem range_drop {n i : Nat} (h : i < n) : (List.range n).drop i = i :: (List.range n).drop (i + 1) := by
  rw [List.drop_eq_getElem_cons (by simpa using h)]; simp
theorem ring_l1 (n i : Nat) (hn : 0 < n) (hn2 : n ≤ 40) (hi : i < n) (acc : List (List Ins)) (ha : acc.length = i) : ∀ (d k j : Nat) (p : List Ins), (i + 1) % n - j = d → j ≤ (i + 1) % n → d < k → p.length ≤ j + 1 →
    ring_Ring.l1 k n acc p n i (((i + 1) % n : Nat) : Int) (j : Int) = ring_Ring.l0 (k - d - 1) n (acc ++ [p ++ (List.replicate d iTail ++ [iHead])]) n (i + 1 : Nat)
  | d, k, j, p, hd, hj, hk, hp => by
    obtain ⟨k, rfl⟩ : ∃ m, k = m + 1 := ⟨k - 1, by omega⟩
    have hm : (i + 1) % n < n := Nat.mod_lt _ hn
    rw [ring_Ring.l1]
    by_cases hlt : j < (i + 1) % n
    · rw [if_pos (by omega), if_pos (by omega), wrap_small (by omega) (by omega), show (j : Int) + 1 = ((j + 1 : Nat) : Int) from rfl]
      rw [ring_l1 n i hn hn2 hi acc ha ((i + 1) % n - (j + 1)) k (j + 1) _ rfl (by omega) (by omega) (by rw [List.length_append, List.length_singleton]; omega)]
      obtain ⟨e, rfl⟩ : ∃ e, d = e + 1 := ⟨d - 1, by omega⟩
      rw [show (i + 1) % n - (j + 1) = e from by omega, show k + 1 - (e + 1) - 1 = k - e - 1 from by omega, List.append_assoc, List.replicate_succ]
      rfl
    · obtain rfl : d = 0 := by omega
      rw [if_neg (by omega), if_pos (by omega), if_pos (by omega), wrap_small (by omega) (by omega)]
      rfl
  termination_by d => d
theorem ring_l0 (n : Nat) (hn : 0 < n) (hn2 : n ≤ 40) : ∀ (d k i : Nat) (acc : List (List Ins)), n - i = d → i ≤ n → d * 50 + 12000 < k → acc.length = i →
    ∃ k', 12000 ≤ k' ∧ ring_Ring.l0 k n acc n (i : Int) = ring_Together.f k' (acc ++ ((List.range n).drop i).map (turnP n))
  | d, k, i, acc, hd, hi, hk, ha => by
    obtain ⟨k, rfl⟩ : ∃ m, k = m + 1 := ⟨k - 1, by omega⟩
    by_cases hlt : i < n
    · have hm : (i + 1) % n < n := Nat.mod_lt _ hn
      obtain ⟨e, rfl⟩ : ∃ e, d = e + 1 := ⟨d - 1, by omega⟩
      have hw : wrap64 ((i : Int) + 1) = ((i + 1 : Nat) : Int) := by rw [wrap_small (by omega) (by omega)]; rfl
      have h1 := ring_l1 n i hn hn2 hlt acc ha ((i + 1) % n) k 0 [iHead] rfl (Nat.zero_le _) (by omega) (by simp)
      rw [show ((0 : Nat) : Int) = 0 from rfl] at h1
      obtain ⟨k', hk', e2⟩ := ring_l0 n hn hn2 e (k - (i + 1) % n - 1) (i + 1) (acc ++ [[iHead] ++ (List.replicate ((i + 1) % n) iTail ++ [iHead])]) (by omega) (by omega) (by omega) (by rw [List.length_append, List.length_singleton]; omega)
      refine ⟨k', hk', ?_⟩
      rw [ring_Ring.l0, if_pos (by omega), if_neg (by omega), hw, tmod_nat, h1, e2, range_drop hlt]
      simp [turnP]
    · refine ⟨k, by omega, ?_⟩
      rw [ring_Ring.l0, if_neg (by omega), List.drop_eq_nil_of_le (by simp; omega), List.map_nil, List.append_nil]
      cases ring_Together.f k acc <;> rfl
  termination_by d => d
theorem ring_tells (n : Nat) (hn : 0 < n) (hn2 : n ≤ 40) (k : Nat) (hk : 16000 ≤ k) : ∃ k', 12000 ≤ k' ∧ ring_Ring.f k (n : Int) = ring_Together.f k' (turns n) := by
  obtain ⟨k, rfl⟩ : ∃ m, k = m + 1 := ⟨k - 1, by omega⟩
  obtain ⟨k', hk', e⟩ := ring_l0 n hn hn2 n k 0 [] rfl (Nat.zero_le _) (by omega) rfl
  rw [show ((0 : Nat) : Int) = 0 from rfl] at e
  refine ⟨k', hk', ?_⟩
  unfold ring_Ring.f
  rw [if_neg (by omega), ring_Ring.j0, if_neg (by simp; omega), e]
  simp [turns]
theorem turn_ins (n j : Nat) : ∀ x ∈ turnP n j, (x.f0 = 3 ∨ x.f0 = 4) ∧ x.f1 = 0 ∧ x.f2 = 0 ∧ x.f3 = 0 ∧ x.f4 = ⟨#[]⟩ := by
  intro x hx
  unfold turnP at hx
  simp only [List.mem_cons, List.mem_append, List.mem_replicate, List.not_mem_nil, or_false] at hx
  rcases hx with rfl | ⟨_, rfl⟩ | rfl
  · exact ⟨.inl rfl, rfl, rfl, rfl, rfl⟩
  · exact ⟨.inr rfl, rfl, rfl, rfl, rfl⟩
  · exact ⟨.inl rfl, rfl, rfl, rfl, rfl⟩
theorem vi_turn (n j : Nat) : VI (turnP n j) := by
  intro i hi
  obtain ⟨h0, h1, h2, h3, h4⟩ := turn_ins n j _ (List.getElem_mem hi)
  refine .inr (.inl ⟨by omega, ?_, ?_, h3, by rw [h4]⟩)
  · rw [h1]; exact ⟨by decide, by decide⟩
  · rw [h2]; exact ⟨by decide, by decide⟩
theorem sizes_zero : ∀ p : List Ins, (∀ x ∈ p, x.f4 = ⟨#[]⟩) → sizes p = 0
  | [], _ => rfl
  | x :: p, h => by
    have ih := sizes_zero p fun y hy => h y (List.mem_cons_of_mem _ hy)
    unfold sizes at *
    rw [List.map_cons, List.sum_cons, ih, h x List.mem_cons_self]
    rfl
theorem turn_size (n j : Nat) : sizes (turnP n j) = 0 := sizes_zero _ fun x hx => (turn_ins n j x hx).2.2.2.2
theorem okp_turn (n j : Nat) (hn : 0 < n) (h : n ≤ 40) : OKP (turnP n j) := by
  have hm : (j + 1) % n < n := Nat.mod_lt _ hn
  exact okp_iff.2 ⟨by unfold turnP; simp; omega, by rw [turn_size]; omega, vi_turn n j⟩
theorem okp_turns (n : Nat) (hn : 0 < n) (h : n ≤ 40) : ∀ p ∈ turns n, OKP p := by
  intro p hp
  obtain ⟨j, _, rfl⟩ := List.mem_map.1 hp
  exact okp_turn n j hn h
end Go.Proofs.YtpnmmpfidiegcaaGreatDoor.Plain
end
section
namespace Go.Proofs.YtpnmmpfidiegcaaGreatDoor.Plain
open Go.Proofs.YtpnmmpfidiegcaaGreatDoor.C
open Go.RowKit Go.Proofs.YtpnmmpfidiegcaaGreatDoorW.PrintWords Go.Proofs.YtpnmmpfidiegcaaGreatDoorW.PrintLast Go.Proofs.YtpnmmpfidiegcaaGreatDoorW.PrintMore
set_option linter.unusedVariables false
set_option linter.unusedSimpArgs false
theorem codeT_size {p : List Ins} (h : OKP p) : (codeT p).size = (codeL p).length := by rw [← Tr.enc_length, codeT_enc (okp_nice h)]
theorem sizes_spec (y : ByteArray) : sizes (specHead y) = y.size + 1 := rfl
end Go.Proofs.YtpnmmpfidiegcaaGreatDoor.Plain
end
section
namespace Go.Proofs.YtpnmmpfidiegcaaGreatDoor.Plain
open Go.Proofs.YtpnmmpfidiegcaaGreatDoor.C
set_option linter.unusedVariables false
set_option linter.unusedSimpArgs false
theorem numT_size : ∀ n, (numT n).size = 2 * n + 1
  | 0 => rfl
  | n + 1 => by
    show 1 + 1 + (numT n).size = _
    rw [numT_size n]; omega
theorem dec_bl_size {s : ByteArray} (h : ValidT s) : (dec (bl s)).size = s.size := by rw [← Tr.enc_length, enc_dec h.2]; exact bl_len s
theorem itemT_bound {x : Ins} {i n : Int} {M : Nat} (h : Right x i n) (hi : i ≤ (M : Int)) (hn : n - i ≤ (M : Int)) : (itemT x).size ≤ 300 + 2 * M + x.f4.size := by
  have e : (itemT x).size = 1 + (numT x.f0.toNat).size + (bodyT x).size := rfl
  rw [e, numT_size]
  unfold bodyT
  unfold Right Reg at h
  rcases h with ⟨h0, h1, h2, h3, h4⟩ | ⟨h0, h1, h2, h3, h4⟩ | ⟨h0, h1, h2, h3, h4⟩ | ⟨h0, h1, h2, h3, h4, h5⟩
  · rw [if_pos h0]
    show _ + (1 + (numT x.f1.toNat).size + (dec (bl x.f4)).size) ≤ _
    rw [numT_size, dec_bl_size h4]
    omega
  · rw [if_neg (by omega), if_neg (by omega), if_neg (by omega)]
    show _ + (1 + (numT x.f1.toNat).size + (numT x.f2.toNat).size) ≤ _
    rw [numT_size, numT_size]
    omega
  · rw [if_neg (by omega), if_pos h0]
    show _ + (1 + (numT x.f1.toNat).size + (1 + (numT x.f2.toNat).size + (numT x.f3.toNat).size)) ≤ _
    rw [numT_size, numT_size, numT_size]
    omega
  · rw [if_neg (by omega), if_neg (by omega), if_pos h0]
    split
    · show _ + (1 + (numT x.f1.toNat).size + (1 + 3 + (numT (-x.f2).toNat).size)) ≤ _
      rw [numT_size, numT_size]
      omega
    · show _ + (1 + (numT x.f1.toNat).size + (1 + 1 + (numT x.f2.toNat).size)) ≤ _
      rw [numT_size, numT_size]
      omega
theorem lstT_bound (b : Nat) : ∀ l : List Ins, (∀ x ∈ l, (itemT x).size ≤ b + x.f4.size) → (lstT (l.map itemT)).size ≤ l.length * (b + 1) + sizes l + 1
  | [], _ => by simp [lstT, Tr.size]
  | x :: l, h => by
    have ih := lstT_bound b l fun y hy => h y (List.mem_cons_of_mem _ hy)
    have h1 := h x List.mem_cons_self
    have e : (lstT ((x :: l).map itemT)).size = 1 + (itemT x).size + (lstT (l.map itemT)).size := rfl
    have es : sizes (x :: l) = x.f4.size + sizes l := by unfold sizes; simp
    rw [e, es, List.length_cons, Nat.succ_mul]
    omega
theorem codeT_bound {p : List Ins} (h : OKP p) : (codeT p).size ≤ p.length * (301 + 2 * p.length) + sizes p + 1 := by
  have := lstT_bound (300 + 2 * p.length) p fun x hx => by
    obtain ⟨j, hj, rfl⟩ := List.mem_iff_getElem.1 hx
    exact itemT_bound ((okp_iff.1 h).2.2 j hj) (by omega) (by omega)
  have e : 300 + 2 * p.length + 1 = 301 + 2 * p.length := by omega
  rw [e] at this
  exact this
end Go.Proofs.YtpnmmpfidiegcaaGreatDoor.Plain
end
section
namespace Go.Proofs.YtpnmmpfidiegcaaGreatDoor.Plain
open Go.Proofs.YtpnmmpfidiegcaaGreatDoor.C
open Go.RowKit Go.Proofs.YtpnmmpfidiegcaaGreatDoorW.PrintWords Go.Proofs.YtpnmmpfidiegcaaGreatDoorW.PrintLast Go.Proofs.YtpnmmpfidiegcaaGreatDoorW.PrintMore
set_option linter.unusedVariables false
set_option linter.unusedSimpArgs false
theorem sizes_append (p q : List Ins) : sizes (p ++ q) = sizes p + sizes q := by unfold sizes; rw [List.map_append, List.sum_append]
theorem head_sizes : sizes ringHead ≤ 1000 := by decide +kernel
theorem lsum_le {b : Nat} : ∀ l : List (List Ins), (∀ e ∈ l, (codeL e).length ≤ b) → lsum l ≤ l.length * (b + 1)
  | [], _ => by simp [lsum]
  | e :: l, h => by
    have ih := lsum_le l fun x hx => h x (List.mem_cons_of_mem _ hx)
    have h1 := h e List.mem_cons_self
    rw [lsum, List.length_cons, Nat.succ_mul]
    omega
theorem behind_length (l : List (List Ins)) : (behind l).length = l.length := by unfold behind; rw [List.length_map]
theorem made_length (l : List (List Ins)) : (madeL l).length = l.length := by unfold madeL; rw [List.length_map]
def Little (B : Nat) (p : List Ins) : Prop := OKP p ∧ p.length ≤ 3000 ∧ sizes p ≤ 100000 ∧ (codeL (ringHead ++ p)).length ≤ B
theorem okp_behind {B : Nat} {p : List Ins} (h : Little B p) : OKP (ringHead ++ p) := by
  obtain ⟨h1, h2, h3, _⟩ := h
  refine okp_iff.2 ⟨by rw [List.length_append, ringHead_length]; omega, ?_, vi_append vi_ringHead (okp_iff.1 h1).2.2⟩
  rw [sizes_append]
  have := head_sizes
  omega
theorem behind_sum {B : Nat} {l : List (List Ins)} (h : ∀ p ∈ l, Little B p) : lsum (behind l) ≤ l.length * (B + 1) := by
  have := lsum_le (b := B) (behind l) fun e he => by
    obtain ⟨p, hp, rfl⟩ := List.mem_map.1 he
    exact (h p hp).2.2.2
  rwa [behind_length] at this
theorem good_behind {B : Nat} {l : List (List Ins)} (h : ∀ p ∈ l, Little B p) (hs : l.length * (B + 1) ≤ 1000000) : GoodL (behind l) := by
  refine ⟨fun e he => ?_, by have := behind_sum h; omega⟩
  obtain ⟨p, hp, rfl⟩ := List.mem_map.1 he
  exact okp_behind (h p hp)
theorem made_okp {B : Nat} {l : List (List Ins)} (h : ∀ p ∈ l, Little B p) (hs : l.length * (B + 1) ≤ 1000000) : ∀ e ∈ madeL (behind l), OKP e ∧ (codeL e).length ≤ l.length * (B + 1) + B + 60 := by
  intro e he
  have hg := good_behind h hs
  have hy : (bs (tabL (behind l))).size ≤ l.length * (B + 1) + 1 := by rw [bs_size, tabL_length]; have := behind_sum h; omega
  have hv := vi_specHead (validT_tab hg)
  have hY : (dec (tabL (behind l))).size ≤ l.length * (B + 1) + 1 := by
    have hT : IsT (tabL (behind l)) := by have := (validT_tab hg).2; rwa [bl_bs] at this
    rw [← Tr.enc_length, enc_dec hT, tabL_length]
    have := behind_sum h
    omega
  obtain ⟨r, hr, rfl⟩ := List.mem_map.1 he
  obtain ⟨p, hp, rfl⟩ := List.mem_map.1 hr
  have hb := okp_behind (h p hp)
  obtain ⟨h1, h2, h3, h4⟩ := h p hp
  have hp' : OKP (specHead (bs (tabL (behind l))) ++ (ringHead ++ p)) := by
    refine okp_iff.2 ⟨by rw [List.length_append, List.length_append, ringHead_length]; show 3 + (30 + p.length) ≤ _; omega, ?_, vi_append hv (okp_iff.1 hb).2.2⟩
    rw [sizes_append, sizes_append, sizes_spec]
    have := head_sizes
    omega
  refine ⟨hp', ?_⟩
  have h6 := codeT_size hb
  rw [← codeT_size hp', codeT_spec, bl_bs]
  generalize dec (tabL (behind l)) = Y at *
  generalize codeT (ringHead ++ p) = c at *
  show 1 + (1 + 1 + (1 + 3 + Y.size)) + (1 + 13 + (1 + 7 + c.size)) ≤ _
  omega
theorem fine_of {B : Nat} {l : List (List Ins)} (h : ∀ p ∈ l, Little B p) (hs : l.length * (B + 1) ≤ 1000000) (hs2 : l.length * (l.length * (B + 1) + B + 61) < 2000000) : Fine l := by
  refine ⟨good_behind h hs, fun e he => (made_okp h hs e he).1, ?_⟩
  have := lsum_le (b := l.length * (B + 1) + B + 60) (madeL (behind l)) fun e he => (made_okp h hs e he).2
  rw [made_length, behind_length] at this
  exact Nat.lt_of_le_of_lt this hs2
theorem lstT_le {b : Nat} : ∀ l : List Tr, (∀ t ∈ l, t.size ≤ b) → (lstT l).size ≤ l.length * (b + 1) + 1
  | [], _ => by simp [lstT, Tr.size]
  | t :: l, h => by
    have ih := lstT_le l fun x hx => h x (List.mem_cons_of_mem _ hx)
    have h1 := h t List.mem_cons_self
    have e : (lstT (t :: l)).size = 1 + t.size + (lstT l).size := rfl
    rw [e, List.length_cons, Nat.succ_mul]
    omega
theorem codes_le {B : Nat} {l : List (List Ins)} (h : ∀ p ∈ l, Little B p) (hs : l.length * (B + 1) ≤ 1000000) : (lstT ((madeL (behind l)).map codeT)).size ≤ l.length * (l.length * (B + 1) + B + 61) + 1 := by
  have := lstT_le (b := l.length * (B + 1) + B + 60) ((madeL (behind l)).map codeT) fun t ht => by
    obtain ⟨e, he, rfl⟩ := List.mem_map.1 ht
    rw [codeT_size (made_okp h hs e he).1]
    exact (made_okp h hs e he).2
  rw [List.length_map, made_length, behind_length] at this
  exact this
set_option maxRecDepth 100000 in
theorem turn12 : ∀ m : Fin 12, (codeL (ringHead ++ (iHead :: (List.replicate m.1 iTail ++ [iHead])))).length ≤ 6000 := by decide +kernel
theorem turn_code {n j : Nat} (hn : 0 < n) (h : n ≤ 12) : (codeL (ringHead ++ turnP n j)).length ≤ 6000 :=
  turn12 ⟨(j + 1) % n, by have := Nat.mod_lt (j + 1) hn; omega⟩
theorem little_turn {n j : Nat} (hn : 0 < n) (h : n ≤ 12) : Little 6000 (turnP n j) := by
  have hm : (j + 1) % n < n := Nat.mod_lt _ hn
  have a1 := okp_turn n j hn (by omega)
  have a2 : (turnP n j).length ≤ 3000 := by unfold turnP; rw [List.length_cons, List.length_append, List.length_replicate, List.length_singleton]; omega
  have a3 := turn_size n j
  have a4 := turn_code (j := j) hn h
  exact ⟨a1, a2, by omega, a4⟩
theorem little_turns {n : Nat} (hn : 0 < n) (h : n ≤ 12) : ∀ p ∈ turns n, Little 6000 p := by
  intro p hp
  obtain ⟨j, _, rfl⟩ := List.mem_map.1 hp
  exact little_turn hn h
set_option maxRecDepth 100000 in
theorem turn_sum {n : Nat} (h : n ≤ 12) : n * (6000 + 1) ≤ 72012 ∧ n * (n * (6000 + 1) + 6000 + 61) ≤ 936900 := by
  have h1 : n * 6001 ≤ 12 * 6001 := Nat.mul_le_mul_right _ h
  refine ⟨by omega, ?_⟩
  have h3 : n * (6000 + 1) + 6000 + 61 ≤ 78073 := by omega
  generalize n * (6000 + 1) + 6000 + 61 = m at h3
  have h2 : n * m ≤ 12 * m := Nat.mul_le_mul_right _ h
  omega
theorem fine12 {n : Nat} (hn : 0 < n) (h : n ≤ 12) : Fine (turns n) := by
  have := turn_sum h
  refine fine_of (little_turns hn h) (by rw [turns_length]; omega) (by rw [turns_length]; omega)
def ringOf (n : Nat) : List (List Ins) := madeL (behind (turns n))
theorem ringOf_length (n : Nat) : (ringOf n).length = n := by unfold ringOf; rw [made_length, behind_length, turns_length]
theorem made_at (l : List (List Ins)) (j : Nat) (hj : j < l.length) : (madeL (behind l))[j]'(by rw [made_length, behind_length]; exact hj) = specHead (bs (tabL (behind l))) ++ ringHead ++ l[j] := by
  rw [List.append_assoc]
  unfold madeL
  rw [List.getElem_map]
  congr 1
  unfold behind
  rw [List.getElem_map]
def later (m : Nat) (q : Tr × Nat × Int) : Tr × Nat × Int := (q.1, if q.2.2 = 0 then q.2.1 + m else 0, q.2.2)
theorem knows_run (l : List (List Ins)) {N : Nat} (hN : l.length = N) (hok : ∀ p ∈ l, OKP p) (hf : Fine l) (j : Nat) (hj : j < l.length) (x : Tr) (hz : 1 + (lstT ((madeL (behind l)).map codeT)).size + x.size ≤ 2000000) (k : Nat) :
    runM ((madeL (behind l))[j]'(by rw [made_length, behind_length]; exact hj)) x (24 + 11 * N + k) = later (24 + 11 * N) (runM l[j] (.cons (lstT ((madeL (behind l)).map codeT)) x) k) := by
  have hNi : ∀ p ∈ l, ∀ x ∈ ringHead ++ p, Nice x := fun p hp => okp_nice (hf.1.1 _ (List.mem_map.2 ⟨p, hp, rfl⟩))
  have hp := hok l[j] (List.getElem_mem hj)
  have hb := ring_begins l hNi l[j] (List.getElem_mem hj) x hz
  have hr := run_behind (pre := specHead (bs (tabL (behind l))) ++ ringHead) (p := l[j]) (m := 24 + 11 * l.length) (x := x) (y := .cons (lstT ((madeL (behind l)).map codeT)) x) (fun i hi => by
    have := (okp_iff.1 hp).2.2 i hi
    rw [List.getD_eq_getElem?_getD, List.getElem?_eq_getElem hi]
    exact this) hb k
  subst hN
  rw [made_at l j hj]
  exact hr
theorem ring_runs (n j : Nat) (hn : 0 < n) (h : n ≤ 12) (hj : j < n) (x : Tr) (hx : x.size ≤ 1000000) (k : Nat) :
    runM ((ringOf n)[j]'(by rw [ringOf_length]; exact hj)) x (26 + 11 * n + (j + 1) % n + k) = (codeT ((ringOf n)[(j + 1) % n]'(by rw [ringOf_length]; exact Nat.mod_lt _ hn)), 26 + 11 * n + (j + 1) % n, 0) := by
  have hm : (j + 1) % n < n := Nat.mod_lt _ hn
  have hs := turn_sum h
  have hz := codes_le (little_turns hn h) (by rw [turns_length]; omega)
  rw [turns_length] at hz
  have hk := knows_run (turns n) (turns_length n) (fun p hp => (little_turns hn h p hp).1) (fine12 hn h) j (by rw [turns_length]; exact hj) x (by omega) (2 + (j + 1) % n + k)
  rw [show 26 + 11 * n + (j + 1) % n + k = 24 + 11 * n + (2 + (j + 1) % n + k) from by omega]
  refine hk.trans ?_
  have ht : (turns n)[j]'(by rw [turns_length]; exact hj) = turnP n j := by unfold turns; rw [List.getElem_map, List.getElem_range]
  have hl : ((madeL (behind (turns n))).map codeT).length = n := by rw [List.length_map, made_length, behind_length, turns_length]
  rw [ht, turn_run n j _ x hn hl _ (by omega)]
  unfold later
  dsimp only
  rw [if_pos rfl, List.getD_eq_getElem?_getD, List.getElem?_eq_getElem (by rw [hl]; exact hm), List.getElem_map]
  refine Prod.ext rfl (Prod.ext ?_ rfl)
  show (j + 1) % n + 2 + (24 + 11 * n) = 26 + 11 * n + (j + 1) % n
  omega
end Go.Proofs.YtpnmmpfidiegcaaGreatDoor.Plain
end
section
namespace Go.Proofs.YtpnmmpfidiegcaaGreatDoor.Plain
open Go.Proofs.YtpnmmpfidiegcaaGreatDoor.C
open Go.RowKit Go.Proofs.YtpnmmpfidiegcaaGreatDoorW.PrintWords Go.Proofs.YtpnmmpfidiegcaaGreatDoorW.PrintLast Go.Proofs.YtpnmmpfidiegcaaGreatDoorW.PrintMore
set_option linter.unusedVariables false
set_option linter.unusedSimpArgs false
theorem after_le (p : List Ins) : ∀ (k : Nat) (a : Int) (r : Rg), (after p k a r).2.2.1 ≤ k
  | 0, _, _ => Nat.le_refl _
  | k + 1, a, r => by
    rw [after]
    split
    · exact Nat.zero_le _
    · split
      · exact Nat.zero_le _
      · rename_i q _
        have := after_le p k (a + q.1) q.2
        show (after p k (a + q.1) q.2).2.2.1 + 1 ≤ k + 1
        omega
end Go.Proofs.YtpnmmpfidiegcaaGreatDoor.Plain
end
section
namespace Go.Proofs.YtpnmmpfidiegcaaGreatDoor.Plain
open Go.Proofs.YtpnmmpfidiegcaaGreatDoor.C
open Go.RowKit Go.Proofs.YtpnmmpfidiegcaaGreatDoorW.PrintWords Go.Proofs.YtpnmmpfidiegcaaGreatDoorW.PrintLast Go.Proofs.YtpnmmpfidiegcaaGreatDoorW.PrintMore
set_option linter.unusedVariables false
set_option linter.unusedSimpArgs false
theorem codeL_bound {p : List Ins} (h : OKP p) (n s : Nat) (h1 : p.length ≤ n) (h2 : sizes p ≤ s) : (codeL p).length ≤ n * (301 + 2 * n) + s + 1 := by
  have h3 := codeT_bound h
  rw [codeT_size h] at h3
  have h4 : p.length * (301 + 2 * p.length) ≤ n * (301 + 2 * n) := Nat.mul_le_mul h1 (by omega)
  omega
set_option maxRecDepth 100000 in
theorem little_small {p : List Ins} (h : OKP p) (h1 : p.length ≤ 60) (h2 : sizes p ≤ 2000) : Little 46400 p := by
  have hs := head_sizes
  have hl : (ringHead ++ p).length ≤ 90 := by rw [List.length_append, ringHead_length]; omega
  have hz : sizes (ringHead ++ p) ≤ 3000 := by rw [sizes_append]; omega
  have hb : OKP (ringHead ++ p) := okp_iff.2 ⟨by omega, by omega, vi_append vi_ringHead (okp_iff.1 h).2.2⟩
  have hc := codeL_bound hb 90 3000 hl hz
  exact ⟨h, by omega, by omega, by omega⟩
theorem fine4 {B : Nat} (hB : B ≤ 46400) {l : List (List Ins)} (hl : l.length ≤ 4) (h : ∀ p ∈ l, Little B p) : Fine l ∧ (lstT ((madeL (behind l)).map codeT)).size ≤ 1000000 := by
  have h1 : l.length * (B + 1) ≤ 4 * (B + 1) := Nat.mul_le_mul_right _ hl
  have h2 : l.length * (l.length * (B + 1) + B + 61) ≤ 4 * (l.length * (B + 1) + B + 61) := Nat.mul_le_mul_right _ hl
  have h3 := codes_le h (by omega)
  exact ⟨fine_of h (by omega) (by omega), by omega⟩
theorem after_exact (p : List Ins) : ∀ (k : Nat) (a : Int) (r : Rg), (after p k a r).2.2.2 = true → (after p k a r).1 = (p.length : Int) → after p (after p k a r).2.2.1 a r = after p k a r
  | 0, _, _, _, _ => rfl
  | k + 1, a, r, h1, h2 => by
    rw [after] at h1 h2 ⊢
    by_cases he : a = (p.length : Int)
    · rw [if_pos he]; rfl
    · rw [if_neg he] at h1 h2 ⊢
      cases hx : exec (p.getD a.toNat ⟨0, 0, 0, 0, ⟨#[]⟩⟩) r with
      | none => rw [hx] at h1; cases h1
      | some q =>
        rw [hx] at h1 h2
        have ih := after_exact p k (a + q.1) q.2 h1 h2
        show after p ((after p k (a + q.1) q.2).2.2.1 + 1) a r = _
        rw [after, if_neg he, hx]
        simp only
        rw [ih]
theorem runM_exact {p : List Ins} {x t : Tr} {k n : Nat} (h : runM p x k = (t, n, 0)) : runM p x n = (t, n, 0) := by
  have hh := h
  unfold runM at h
  dsimp only at h
  split at h
  · rename_i h1
    split at h
    · rename_i h2
      have hn : (after p k 0 (init x)).2.2.1 = n := congrArg (fun q => q.2.1) h
      have := after_exact p k 0 (init x) h1 h2
      rw [hn] at this
      unfold runM at hh ⊢
      rw [this]
      exact hh
    · cases h
  · cases h
end Go.Proofs.YtpnmmpfidiegcaaGreatDoor.Plain
end
section
namespace Go.Proofs.YtpnmmpfidiegcaaGreatDoor.C
open Go.RowKit Go.Proofs.YtpnmmpfidiegcaaGreatDoorW.PrintWords Go.Proofs.YtpnmmpfidiegcaaGreatDoorW.PrintLast Go.Proofs.YtpnmmpfidiegcaaGreatDoorW.PrintMore
open Go.Proofs.YtpnmmpfidiegcaaGreatDoor.Plain (Tr OKP runM codeT lstT itemT ringOf ringOf_length turns tmod_nat)
set_option linter.unusedVariables false
set_option linter.unusedSimpArgs false
theorem prg_at {w : World} {A : Option Addr} {n : Nat} {L : List Prg} (h : Kd.C (Kd.slice 52 k52) w A n L) (hn : L.length = n) (i : Int) (j : Nat) (e : i = (j : Int)) (hj : j < n) :
    ∃ ad A0 c0, A = some ad ∧ w.cell? (ad.add i.toNat) = some (.slice A0 (L[j]'(by omega)).length c0) ∧ (L[j]'(by omega)).length ≤ c0 ∧ Kd.C k52 w A0 (L[j]'(by omega)).length (L[j]'(by omega)) := by
  have hrd : rd_L6 L i = L[j]'(by omega) := by subst e; unfold rd_L6; simp [show j < L.length from by omega]
  have := at_L6 h i (by omega) (by omega)
  rwa [hrd] at this
theorem lstT_drop (l : List Tr) : ∀ j, (lstT (l.drop j)).size ≤ (lstT l).size := by
  intro j
  induction l generalizing j with
  | nil => rw [List.drop_nil]; exact Nat.le_refl _
  | cons t l ih =>
    cases j with
    | zero => exact Nat.le_refl _
    | succ j =>
      have h := ih j
      have e : (lstT (t :: l)).size = 1 + t.size + (lstT l).size := rfl
      rw [List.drop_succ_cons, e]
      omega
set_option maxRecDepth 100000 in
theorem code_small {p : Prg} (h : OKP p) : (codeT p).size ≤ 40000000 := by
  have h1 := Plain.codeT_bound h
  have h2 : p.length * (301 + 2 * p.length) ≤ 4000 * (301 + 2 * 4000) := Nat.mul_le_mul h.1 (by have := h.1; omega)
  have h3 := (Plain.okp_iff.1 h).2.1
  omega
theorem code_drop {p : Prg} (h : OKP p) : ∀ j, (codeT (p.drop j)).size ≤ 1000000000 := by
  intro j
  have h1 := lstT_drop (p.map itemT) j
  rw [← List.map_drop] at h1
  have h2 := code_small h
  exact Nat.le_trans h1 (Nat.le_trans h2 (by decide))
theorem code_yes {A : Option Addr} {c m : Nat} {p : Prg} {w : World} (hm : p.length = m) (hC : Kd.C k52 w A m p) (hp : OKP p) :
    Calls Tryz.prog 13 #[.slice A m c] w fun e w' => ∃ v, e = .returned v ∧ Nd w' (codeT p) v ∧ Below w.heap.size w w' := by
  subst hm
  exact code_calls A c p w hC hp (code_drop hp)
theorem play_to {A : Option Addr} {c m : Nat} {p : Prg} {t : Tr} {x : Value} (k : Nat) (N : Int) {w : World} (hN : N = (k : Int)) (hm : p.length = m) (hC : Kd.C k52 w A m p) (hp : OKP p) (hx : Nd w t x) (hz : t.size ≤ 2000000) (hk : k ≤ 1000000000) :
    Calls Tryz.prog 14 #[.slice A m c, x, .int .i64 N] w (Played w (runM p t k)) := by
  subst hN
  exact play_go A c m p t x k w hm hC hp hx hz hk
theorem ring12 (n : Nat) (hn : 0 < n) (h : n ≤ 12) (k : Nat) (hk : 16000 ≤ k) : ring_Ring.f k (n : Int) = some (ringOf n, 0) := by
  obtain ⟨k', hk', e⟩ := Plain.ring_tells n hn (by omega) k hk
  rw [e]
  exact Plain.together_yes (Plain.okp_turns n hn (by omega)) (by rw [Plain.turns_length]; omega) (by rw [Plain.turns_length]; omega) (Plain.fine12 hn h) k' (by omega)
theorem ring12_okp (n : Nat) (hn : 0 < n) (h : n ≤ 12) : ∀ p ∈ ringOf n, OKP p := fun p hp => (Plain.fine12 hn h).2.1 p hp
set_option maxHeartbeats 4000000 in
set_option maxRecDepth 100000 in
theorem rings_calls (w : World) (hL : LaidW w) : Calls Tryz.prog 7 #[] w fun e w' => e = .returned (.bool true) ∧ Below w.heap.size w w' := by
  have hr : ring_Ring.f 3000000 (3 : Int) = some (ringOf 3, 0) := ring12 3 (by decide) (by decide) 3000000 (by decide)
  have hok := ring12_okp 3 (by decide) (by decide)
  have hlen := ringOf_length 3
  have hrun : ∀ j (hj : j < 3), runM ((ringOf 3)[j]'(by rw [hlen]; exact hj)) .nil 1000 = (codeT ((ringOf 3)[(j + 1) % 3]'(by rw [hlen]; omega)), 26 + 11 * 3 + (j + 1) % 3, 0) := fun j hj => by
    have := Plain.ring_runs 3 j (by decide) (by decide) hj .nil (by decide) (1000 - (26 + 11 * 3 + (j + 1) % 3))
    rwa [show 26 + 11 * 3 + (j + 1) % 3 + (1000 - (26 + 11 * 3 + (j + 1) % 3)) = 1000 from by omega] at this
  generalize ringOf 3 = L at *
  have HNIL : Aside0 (∀ W : World, Nd W .nil (.pointer none)) := ⟨fun _ => rfl⟩
  have HK : Aside0 ((1000 : Int) = ((1000 : Nat) : Int) ∧ Tr.nil.size ≤ 2000000 ∧ 1000 ≤ 1000000000) := ⟨rfl, by decide, by decide⟩
  have HL := Aside0.mk hL
  have HR := Aside0.mk hr
  have HOK := Aside0.mk hok
  have HRUN := Aside0.mk hrun
  have HLEN := Aside0.mk hlen
  clear hL hr hok hrun
  go_enter Tryz.func7, Tryz.ntmps7
  go_wp2_with (go_at_call 17; (with_reducible refine (ring_Ring.calls 3000000 3 L 0 _ HL.out HR.out).mono ?_); rintro e' w2 ⟨vl, rfl, hs, hb⟩; have hs1 := Kd.S_R hs; obtain ⟨A, c, hvl, hcap, hC⟩ := Kd.R_reads hs1; rw [HLEN.out] at hvl hcap hC; subst hvl; have HC := Aside0.mk hC; have HB0 := Aside0.mk hb; clear hs hs1 hb hC)
  go_loopg [3] (3 + 1) (fun kq v3 wr => ∃ i : Nat, v3 = .int .i64 i ∧ i ≤ 3 ∧ Aside0 (kq = 3 - i + 1) ∧ Aside0 (Below w2.heap.size w2 wr))
  case atStart => exact ⟨0, rfl, Nat.zero_le _, ⟨by omega⟩, ⟨Below.refl _ _⟩⟩
  case round =>
    obtain ⟨i, rfl, hi, HI, HBR⟩ := hrel
    by_cases hlt : i < 3
    · have ht : Int.tmod ((i : Int) + 1) 3 = (((i + 1) % 3 : Nat) : Int) := by rw [show (i : Int) + 1 = ((i + 1 : Nat) : Int) from rfl, show (3 : Int) = ((3 : Nat) : Int) from rfl, tmod_nat]
      have hmm : (i + 1) % 3 < 3 := Nat.mod_lt _ (by decide)
      obtain ⟨ad, A1, c1, rfl, cl1, hle1, hC1⟩ := prg_at HC.out HLEN.out (Int.tmod ((i : Int) + 1) 3) ((i + 1) % 3) ht hmm
      obtain ⟨ad', A2, c2, e2, cl2, hle2, hC2⟩ := prg_at HC.out HLEN.out (i : Int) i rfl hlt
      injection e2 with e2
      subst e2
      have b0 : 0 ≤ ((i : Int) + 1) % 3 := Int.emod_nonneg _ (by omega)
      have b1 : ((i : Int) + 1) % 3 < 3 := Int.emod_lt_of_pos _ (by omega)
      have b2 : (i : Int) < 3 := by omega
      have hlL := HLEN.out
      have HP1 := Aside0.mk (HOK.out (L[(i + 1) % 3]'(by omega)) (List.getElem_mem _))
      have HP2 := Aside0.mk (HOK.out (L[i]'(by omega)) (List.getElem_mem _))
      have HRN := Aside0.mk (HRUN.out i hlt)
      generalize (L[(i + 1) % 3]'(by omega)) = q at *
      generalize (L[i]'(by omega)) = p at *
      rw [Int.toNat_natCast] at cl2
      rw [ht, Int.toNat_natCast] at cl1
      replace cl1 := pw_cell_below HBR.out cl1
      replace cl2 := pw_cell_below HBR.out cl2
      have HC1 := Aside0.mk (Kd.C_below hC1 HBR.out)
      have HC2 := Aside0.mk (Kd.C_below hC2 HBR.out)
      have HB := HBR
      obtain ⟨k2, rfl⟩ : ∃ k2, gk = k2 + 1 := ⟨gk - 1, by have := HI.out; omega⟩
      clear hC1 hC2 hle1 hle2 ht hmm hlL
      go_wp2_with (first
        | (go_at_call 11; first
            | ((with_reducible refine (whole_yes (A := A2) rfl HC2.out HP2.out).mono ?_); rintro e w7 ⟨rfl, hb⟩; have HB := Aside0.mk (below_then HB.out HB.out.size hb); have HC1 := Aside0.mk (Kd.C_below HC1.out hb); have HC2 := Aside0.mk (Kd.C_below HC2.out hb); replace cl1 := pw_cell_below hb cl1; replace cl2 := pw_cell_below hb cl2; clear hb)
            | ((with_reducible refine (whole_yes (A := A1) rfl HC1.out HP1.out).mono ?_); rintro e w7 ⟨rfl, hb⟩; have HB := Aside0.mk (below_then HB.out HB.out.size hb); have HC1 := Aside0.mk (Kd.C_below HC1.out hb); have HC2 := Aside0.mk (Kd.C_below HC2.out hb); replace cl1 := pw_cell_below hb cl1; replace cl2 := pw_cell_below hb cl2; clear hb))
        | (go_at_call 14; (with_reducible refine (play_to (A := A2) (t := .nil) 1000 1000 HK.out.1 rfl HC2.out HP2.out (HNIL.out _) HK.out.2.1 HK.out.2.2).mono ?_); rw [HRN.out]; rintro e w7 ⟨hb, ⟨_, v, rfl, hv⟩ | ⟨h0, _⟩ | ⟨h0, _⟩⟩; (have HB := Aside0.mk (below_then HB.out HB.out.size hb)); (have HC1 := Aside0.mk (Kd.C_below HC1.out hb)); (replace cl1 := pw_cell_below hb cl1); (replace cl2 := pw_cell_below hb cl2); (have HV := Aside0.mk hv); (clear hb hv); rotate_left; (exact absurd h0 (show ¬ ((0 : Int) = 7) by decide)); (exact absurd h0 (show ¬ ((0 : Int) = 3) by decide)))
        | (go_at_call 13; (with_reducible refine (code_yes (A := A1) rfl HC1.out HP1.out).mono ?_); rintro e w7 ⟨vc, rfl, hc, hb⟩; have HB := Aside0.mk (below_then HB.out HB.out.size hb); have HV := Aside0.mk (Nd.keep (NK.below hb) _ _ HV.out); have HVC := Aside0.mk hc; clear hb hc)
        | (go_at_call 18; (with_reducible refine (equal_yes (codeT q) v vc _ HV.out HVC.out (by have := code_small HP1.out; omega)).mono ?_); rintro e w7 ⟨rfl, hb⟩; have HB := Aside0.mk (below_then HB.out HB.out.size hb); clear hb))
      go_roundg k2
      case measure => omega
      case rel => exact ⟨i + 1, by go_num, by omega, ⟨by have := HI.out; omega⟩, HB⟩
    · obtain rfl : i = 3 := by omega
      go_wp2
      go_ret
      exact ⟨rfl, below_then HB0.out HB0.out.size HBR.out⟩
end Go.Proofs.YtpnmmpfidiegcaaGreatDoor.C
end
section
namespace Go.Proofs.YtpnmmpfidiegcaaGreatDoor.C
open Go.RowKit Go.Proofs.YtpnmmpfidiegcaaGreatDoorW.PrintWords Go.Proofs.YtpnmmpfidiegcaaGreatDoorW.PrintLast Go.Proofs.YtpnmmpfidiegcaaGreatDoorW.PrintMore
open Go.Proofs.YtpnmmpfidiegcaaGreatDoor.Plain (Tr OKP runM codeT lstT itemT ringOf ringOf_length turns tmod_nat dec)
set_option linter.unusedVariables false
set_option linter.unusedSimpArgs false
abbrev Yes (w : World) (e : Ending) (w' : World) : Prop := e = .returned (.bool true) ∧ Below w.heap.size w w'
def CodesTo (w : World) (hb : Nat) (L : List Prg) (i : Nat) : Prop := ∃ xs : List Value, w.heap[hb]? = some (.cells xs.toArray 23 (0, 0)) ∧ xs.length = L.length ∧ (∀ j, j < L.length → ∃ q, xs[j]? = some (.pointer q)) ∧ ∀ j (h : j < L.length), j < i → ∃ v, xs[j]? = some v ∧ Nd w (codeT L[j]) v
theorem CodesTo.below {w w' : World} {hb i : Nat} {L : List Prg} (h : CodesTo w hb L i) (hbl : Below w.heap.size w w') : CodesTo w' hb L i := by
  obtain ⟨xs, g1, g2, g3, g4⟩ := h
  refine ⟨xs, (hbl.block _ (blk_lt g1)).trans g1, g2, g3, fun j hj hji => ?_⟩
  obtain ⟨v, e, hn⟩ := g4 j hj hji
  exact ⟨v, e, Nd.keep (NK.below hbl) _ _ hn⟩
theorem CodesTo.cell {w : World} {hb i : Nat} {L : List Prg} (h : CodesTo w hb L i) (j : Nat) (hj : j < L.length) : ∃ q, w.cell? ⟨hb, j, none⟩ = some (.pointer q) ∧ w.frozen? ⟨hb, j, none⟩ = false ∧ (j < i → Nd w (codeT L[j]) (.pointer q)) := by
  obtain ⟨xs, g1, g2, g3, g4⟩ := h
  obtain ⟨q, e⟩ := g3 j hj
  refine ⟨q, reg_cell g1 e, blk_frozen g1 j, fun hi => ?_⟩
  obtain ⟨v, e2, hn⟩ := g4 j hj hi
  rw [e] at e2
  injection e2 with e2
  rwa [e2]
theorem CodesTo.put {w : World} {hb i : Nat} {L : List Prg} (h : CodesTo w hb L i) (hi : i < L.length) {q : Option Addr} (hn : Nd w (codeT L[i]) (.pointer q)) : CodesTo (w.setCell ⟨hb, i, none⟩ (.pointer q)) hb L (i + 1) ∧ NK w (w.setCell ⟨hb, i, none⟩ (.pointer q)) := by
  obtain ⟨xs, g1, g2, g3, g4⟩ := h
  have k1 : NK w (w.setCell ⟨hb, i, none⟩ (.pointer q)) := NK.set g1 (by decide) i _
  refine ⟨⟨xs.set i (.pointer q), (blk_set g1 i _).trans (by simp), by rw [List.length_set]; exact g2, fun j hj => ?_, fun j hj hji => ?_⟩, k1⟩
  · by_cases h : j = i
    · subst h
      exact ⟨q, by rw [List.getElem?_set_self (by rw [g2]; exact hj)]⟩
    · rw [List.getElem?_set_ne (by omega)]
      exact g3 j hj
  · by_cases h : j = i
    · subst h
      exact ⟨.pointer q, by rw [List.getElem?_set_self (by rw [g2]; exact hj)], Nd.keep k1 _ _ hn⟩
    · rw [List.getElem?_set_ne (by omega)]
      obtain ⟨v, hv, hn⟩ := g4 j hj (by omega)
      exact ⟨v, hv, Nd.keep k1 _ _ hn⟩
end Go.Proofs.YtpnmmpfidiegcaaGreatDoor.C
end
section
namespace Go.Proofs.YtpnmmpfidiegcaaGreatDoor.Plain
open Go.Proofs.YtpnmmpfidiegcaaGreatDoor.C
open Go.RowKit Go.Proofs.YtpnmmpfidiegcaaGreatDoorW.PrintWords Go.Proofs.YtpnmmpfidiegcaaGreatDoorW.PrintLast Go.Proofs.YtpnmmpfidiegcaaGreatDoorW.PrintMore
set_option linter.unusedVariables false
set_option linter.unusedSimpArgs false
theorem runM_how (p : List Ins) (x : Tr) (k : Nat) : (runM p x k).2.1 ≤ k ∧ ((runM p x k).2.2 = 0 ∨ (runM p x k).2.2 = 7 ∨ (runM p x k).2.2 = 3) := by
  have hn := after_le p k 0 (init x)
  unfold runM
  dsimp only
  split
  · split
    · exact ⟨hn, .inl rfl⟩
    · exact ⟨Nat.zero_le _, .inr (.inl rfl)⟩
  · exact ⟨Nat.zero_le _, .inr (.inr rfl)⟩
end Go.Proofs.YtpnmmpfidiegcaaGreatDoor.Plain
end
section
namespace Go.Proofs.YtpnmmpfidiegcaaGreatDoor.C
open Go.RowKit Go.Proofs.YtpnmmpfidiegcaaGreatDoorW.PrintWords Go.Proofs.YtpnmmpfidiegcaaGreatDoorW.PrintLast Go.Proofs.YtpnmmpfidiegcaaGreatDoorW.PrintMore
attribute [local go_sem] max2_int min2_int max_two min_two max_three min_three max_four min_four
set_option linter.unusedVariables false
set_option linter.unusedSimpArgs false
def narcissustop_twin.f (l0 : List (S52)) : Option ((List (S52))) := (some (([] : List (S52)) : List (S52))).bind fun y1 => (if y1.length + l0.length < 2932031007402 then (some (y1 ++ l0)) else (none))
set_option maxHeartbeats 8000000 in
set_option maxRecDepth 100000 in
theorem narcissustop_twin.calls (A0 : Option Addr) (c0 : Nat) (l0 : List (S52)) (r : List (S52)) (w : World) (hr0 : Kd.C k52 w A0 l0.length l0) (hc0 : l0.length ≤ c0) (h : narcissustop_twin.f l0 = some r) :
  Calls Tryz.prog 9 #[.slice A0 l0.length c0] w fun e w' => ∃ v0_ : Value, e = .returned (v0_) ∧ Kd.R k52 52 w' w.heap.size (fun _ => True) v0_ r ∧ Below w.heap.size w w' := by
 have HR0 := Aside0.mk hr0
 have HC0 := Aside0.mk hc0
 clear hr0 hc0
 have HB := Aside0.mk (Below.refl w.heap.size w)
 have H : ((some (([] : List (S52)) : List (S52))).bind fun y1 => (if y1.length + l0.length < 2932031007402 then (some (y1 ++ l0)) else (none))) = some r := h
 clear h
 obtain ⟨y1, hy1⟩ : ∃ y_ : List (S52), y_ = (([] : List (S52))) := ⟨_, rfl⟩
 replace H : (if y1.length + l0.length < 2932031007402 then (some (y1 ++ l0)) else (none)) = some r := by first | (rw [hy1]; with_reducible exact H) | (have H2_ := (Option.bind_some _ _).symm.trans H; rw [hy1]; with_reducible exact H2_) | (have H2_ := (Option.bind_some _ _).symm.trans H; with_reducible exact H2_) | with_reducible exact H | (rw [hy1]; exact H) | exact H
 have Ny1 := Aside0.mk hy1
 clear hy1
 by_cases c2 : y1.length + l0.length < 2932031007402
 ·rw [if_pos c2] at H
  have LMc2 := Aside0.mk c2
  clear c2
  obtain ⟨y4, hy4⟩ : ∃ y_ : List (S52), y_ = (y1 ++ l0) := ⟨_, rfl⟩
  replace H : (some y4) = some r := by first | (rw [hy4]; with_reducible exact H) | (have H2_ := (Option.bind_some _ _).symm.trans H; rw [hy4]; with_reducible exact H2_) | (have H2_ := (Option.bind_some _ _).symm.trans H; with_reducible exact H2_) | with_reducible exact H | (rw [hy4]; exact H) | exact H
  have Ny4 := Aside0.mk hy4
  clear hy4
  obtain rfl := Option.some.inj H
  go_enter Tryz.func9, Tryz.ntmps9
  go_wp2_with (first | ((with_reducible refine gate_dst (N := 3) rfl ?_); refine Kd.R_lit k52 _ 52 ?hg (N := 3) ?hd (xs := ([] : List (S52))) (inner := []) (ok := fun _ => True) (okp := fun _ => True) ?hr ?hp (fun _ hk => hk) trivial (Below.refl _ _) (Nat.le_refl _) (by simp) ?_; (case hd => rfl); (case hg => rfl); (case hr => first | (go_simp; done) | (go_simp; rfl)); (case hp => exact (Reps.none _ _)); intro v2 w3 ho4 hb hg_ hnew_; clear hg_ hnew_; (first | rw [← Ny1.out] at ho4 | (simp only [Int.reduceToNat] at ho4; rw [← Ny1.out] at ho4)); have n0_ := Aside0.mk (Kd.R_lower ho4 (below_size (by repeat (first | (with_reducible first | exact HB.out | apply below_alloc | apply pw_below_drewN | apply below_drew1) | exact HB.out)))); have n1_ := Aside0.mk (below_step (by repeat (first | (with_reducible first | exact HB.out | apply below_alloc | apply pw_below_drewN | apply below_drew1) | exact HB.out)) hb); clear HB; have HO3 := n0_; have HB := n1_; clear n0_ n1_; clear hb ho4) | ((with_reducible refine gate_builtin (b := .append) (xs := #[.tmp 3, .tmp 4]) rfl ?_); at_builtin; refine Kd.R_append_rows k52 (w0 := w) w.heap.size rfl (.tmp 3) (.tmp 4) 29 52 (.agg #[(.int .i64 0), (.int .i64 0), (.int .i64 0), (.int .i64 0), (.string ⟨#[]⟩)]) 48 rfl Tryz.underlying29 info52 rfl (by decide) (by omega) v2 y1 l0 _ _ _ (fun _ => True) (fun _ => False) rfl rfl ?aO ?aR (fun _ _ h => h) (fun _ h => h.elim) ?aF ?aB ?aS ?aL ?_; (case aR => repeat (first | exact (Kd.C_below HR0.out HB.out) | (with_reducible refine Kd.C_alloc ?_ _) | (with_reducible refine Kd.C_drewN ?_ _) | (with_reducible refine Kd.C_drew ?_))); (case aB => exact (by repeat (first | (with_reducible first | exact HB.out | apply below_alloc | apply pw_below_drewN | apply below_drew1) | exact HB.out))); (case aF => exact (fun _ _ => trivial)); (case aO => exact (by (with_reducible repeat (first | apply Kd.R_alloc | apply Kd.R_drewN | apply Kd.R_drew)); exact HO3.out)); (case aS => exact (below_size (by repeat (first | (with_reducible first | exact HB.out | apply below_alloc | apply pw_below_drewN | apply below_drew1) | exact HB.out)))); (case aL => have := LMc2.out; first | omega | (simp only [lit_size, List.size_toArray, List.length_cons, List.length_nil]; omega)); intro v5 w5 ho hb hg hat; rw [← Ny4.out] at ho; have n0_ := Aside0.mk (hb); have n1_ := Aside0.mk (ho); clear HB; clear HO3; have HB := n0_; have HO6 := n1_; clear n0_ n1_; clear ho hb hg hat))
  go_ret
  exact ⟨_, by first | rfl | (simp [errW_none, errW_some] <;> rfl) | (simp [*, errW_none, errW_some] <;> rfl), by (with_reducible repeat (first | apply Kd.R_alloc | apply Kd.R_drewN | apply Kd.R_drew)); exact HO6.out, by repeat (first | (with_reducible first | exact HB.out | apply below_alloc | apply pw_below_drewN | apply below_drew1) | exact HB.out)⟩
 ·rw [if_neg c2] at H
  exact absurd H (by simp)
end Go.Proofs.YtpnmmpfidiegcaaGreatDoor.C
end
section
namespace Go.Proofs.YtpnmmpfidiegcaaGreatDoor.C
open Go.RowKit Go.Proofs.YtpnmmpfidiegcaaGreatDoorW.PrintWords Go.Proofs.YtpnmmpfidiegcaaGreatDoorW.PrintLast Go.Proofs.YtpnmmpfidiegcaaGreatDoorW.PrintMore
open Go.Proofs.YtpnmmpfidiegcaaGreatDoor.Plain (Tr OKP runM codeT dec okp_iff runM_exact runM_how)
set_option linter.unusedVariables false
set_option linter.unusedSimpArgs false
theorem play_end {A : Option Addr} {c m : Nat} {p : Prg} {t y : Tr} {x : Value} {n : Nat} (k : Nat) (N : Int) {w : World} (hN : N = (k : Int)) (hm : p.length = m) (hC : Kd.C k52 w A m p) (hp : OKP p) (hx : Nd w t x) (hz : t.size ≤ 2000000) (hk : k ≤ 1000000000) (hr : runM p t k = (y, n, 0)) :
    Calls Tryz.prog 14 #[.slice A m c, x, .int .i64 N] w fun e w' => ∃ v, e = .returned (.tuple #[v, .int .i64 (n : Int), .int .i64 0]) ∧ Nd w' y v ∧ Below w.heap.size w w' := by
  refine (play_to k N hN hm hC hp hx hz hk).mono ?_
  rw [hr]
  rintro e w' ⟨hb, ⟨_, v, rfl, hv⟩ | ⟨h0, _⟩ | ⟨h0, _⟩⟩
  · exact ⟨v, rfl, hv, hb⟩
  · exact absurd h0 (show ¬ ((0 : Int) = 7) by decide)
  · exact absurd h0 (show ¬ ((0 : Int) = 3) by decide)
theorem play_on {A : Option Addr} {c m : Nat} {p : Prg} {t : Tr} {x : Value} (k : Nat) (N : Int) {w : World} (hN : N = (k : Int)) (hm : p.length = m) (hC : Kd.C k52 w A m p) (hp : OKP p) (hx : Nd w t x) (hz : t.size ≤ 2000000) (hk : k ≤ 1000000000) (hr : (runM p t k).2.2 = 7) :
    Calls Tryz.prog 14 #[.slice A m c, x, .int .i64 N] w fun e w' => ∃ n : Int, e = .returned (.tuple #[.pointer none, .int .i64 n, .int .i64 1]) ∧ Below w.heap.size w w' := by
  refine (play_to k N hN hm hC hp hx hz hk).mono ?_
  rintro e w' ⟨hb, ⟨h0, _⟩ | ⟨_, n, rfl⟩ | ⟨h0, _⟩⟩
  · rw [hr] at h0; exact absurd h0 (by decide)
  · exact ⟨n, rfl, hb⟩
  · rw [hr] at h0; exact absurd h0 (by decide)
theorem play_large {A : Option Addr} {c m : Nat} {p : Prg} {t : Tr} {x : Value} (k : Nat) (N : Int) {w : World} (hN : N = (k : Int)) (hm : p.length = m) (hC : Kd.C k52 w A m p) (hp : OKP p) (hx : Nd w t x) (hz : t.size ≤ 2000000) (hk : k ≤ 1000000000) (hr : (runM p t k).2.2 = 3) :
    Calls Tryz.prog 14 #[.slice A m c, x, .int .i64 N] w fun e w' => ∃ n : Int, e = .returned (.tuple #[.pointer none, .int .i64 n, .int .i64 2]) ∧ Below w.heap.size w w' := by
  refine (play_to k N hN hm hC hp hx hz hk).mono ?_
  rintro e w' ⟨hb, ⟨h0, _⟩ | ⟨h0, _⟩ | ⟨_, n, rfl⟩⟩
  · rw [hr] at h0; exact absurd h0 (by decide)
  · rw [hr] at h0; exact absurd h0 (by decide)
  · exact ⟨n, rfl, hb⟩
theorem goodp_okp {p : Prg} {a b : Nat} (h : GoodP p a b) (ha : a ≤ 4000) (hb : b ≤ 2000000) : OKP p := okp_iff.2 ⟨by have := h.1; omega, by have := h.2.1; omega, h.2.2⟩
end Go.Proofs.YtpnmmpfidiegcaaGreatDoor.C
end
