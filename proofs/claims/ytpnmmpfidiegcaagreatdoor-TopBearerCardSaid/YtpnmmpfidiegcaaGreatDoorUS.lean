/- Texts of this claim, together: what the functions return, and what they say in plain words. -/
import Derived.Test.YtpnmmpfidiegcaaGreatDoorUQ
import Derived.Test.YtpnmmpfidiegcaaGreatDoorUJ
import Derived.Test.YtpnmmpfidiegcaaGreatDoorUR
import Derived.Test.YtpnmmpfidiegcaaGreatDoorUB
import Derived.Test.YtpnmmpfidiegcaaGreatDoorUF
import Derived.Test.YtpnmmpfidiegcaaGreatDoorUL
section
namespace Go.Proofs.YtpnmmpfidiegcaaGreatDoor.Plain
open Go.Proofs.YtpnmmpfidiegcaaGreatDoor.C
open Go.RowKit Go.Proofs.YtpnmmpfidiegcaaGreatDoorW.PrintWords Go.Proofs.YtpnmmpfidiegcaaGreatDoorW.PrintLast Go.Proofs.YtpnmmpfidiegcaaGreatDoorW.PrintMore
set_option linter.unusedVariables false
set_option linter.unusedSimpArgs false
abbrev iHead : Ins := ⟨3, 0, 0, 0, ⟨#[]⟩⟩
abbrev iTail : Ins := ⟨4, 0, 0, 0, ⟨#[]⟩⟩
def turns (n : Nat) : List (List Ins) := (List.range n).map (turnP n)
theorem turns_length (n : Nat) : (turns n).length = n := by unfold turns; simp
theorem tmod_nat (a n : Nat) : Int.tmod (a : Int) (n : Int) = ((a % n : Nat) : Int) := rfl
theorem range_drop {n i : Nat} (h : i < n) : (List.range n).drop i = i :: (List.range n).drop (i + 1) := by
  rw [List.drop_eq_getElem_cons (by simpa using h)]; simp
theorem ring_l1 (n i : Nat) (hn : 0 < n) (hn2 : n ≤ 40) (hi : i < n) (acc : List (List Ins)) (ha : acc.length = i) : ∀ (d k j : Nat) (p : List Ins), (i + 1) % n - j = d → j ≤ (i + 1) % n → d < k → p.length ≤ j + 1 →
    ring_Ring.l1 k n acc p n i (((i + 1) % n : Nat) : Int) (j : Int) = ring_Ring.l0 (k - d - 1) n (acc ++ [p ++ (List.replicate d iTail ++ [iHead])]) n (i + 1 : Nat)
  | d, k, j, p, hd, hj, hk, hp => by
    obtain ⟨k, rfl⟩ : ∃ m, k = m + 1 := ⟨k - 1, by omega⟩
    have hm : (i + 1) % n < n := Nat.mod_lt _ hn
    rw [ring_Ring.l1]
    by_cases hlt : j < (i + 1) % n
    · rw [if_pos (by omega), if_pos (by omega), wrap_small (by omega) (by omega), show (j : Int) + 1 = ((j + 1 : Nat) : Int) from rfl]
      rw [ring_l1 n i hn hn2 hi acc ha ((i + 1) % n - (j + 1)) k (j + 1) _ rfl (by omega) (by omega) (by rw [List.length_append, List.length_singleton]; omega)]
      obtain ⟨e, rfl⟩ : ∃ e, d = e + 1 := ⟨d - 1, by omega⟩
      rw [show (i + 1) % n - (j + 1) = e from by omega, show k + 1 - (e + 1) - 1 = k - e - 1 from by omega, List.append_assoc, List.replicate_succ]
      rfl
    · obtain rfl : d = 0 := by omega
      rw [if_neg (by omega), if_pos (by omega), if_pos (by omega), wrap_small (by omega) (by omega)]
      rfl
  termination_by d => d
theorem ring_l0 (n : Nat) (hn : 0 < n) (hn2 : n ≤ 40) : ∀ (d k i : Nat) (acc : List (List Ins)), n - i = d → i ≤ n → d * 50 + 12000 < k → acc.length = i →
    ∃ k', 12000 ≤ k' ∧ ring_Ring.l0 k n acc n (i : Int) = ring_Together.f k' (acc ++ ((List.range n).drop i).map (turnP n))
  | d, k, i, acc, hd, hi, hk, ha => by
    obtain ⟨k, rfl⟩ : ∃ m, k = m + 1 := ⟨k - 1, by omega⟩
    by_cases hlt : i < n
    · have hm : (i + 1) % n < n := Nat.mod_lt _ hn
      obtain ⟨e, rfl⟩ : ∃ e, d = e + 1 := ⟨d - 1, by omega⟩
      have hw : wrap64 ((i : Int) + 1) = ((i + 1 : Nat) : Int) := by rw [wrap_small (by omega) (by omega)]; rfl
      have h1 := ring_l1 n i hn hn2 hlt acc ha ((i + 1) % n) k 0 [iHead] rfl (Nat.zero_le _) (by omega) (by simp)
      rw [show ((0 : Nat) : Int) = 0 from rfl] at h1
      obtain ⟨k', hk', e2⟩ := ring_l0 n hn hn2 e (k - (i + 1) % n - 1) (i + 1) (acc ++ [[iHead] ++ (List.replicate ((i + 1) % n) iTail ++ [iHead])]) (by omega) (by omega) (by omega) (by rw [List.length_append, List.length_singleton]; omega)
      refine ⟨k', hk', ?_⟩
      rw [ring_Ring.l0, if_pos (by omega), if_neg (by omega), hw, tmod_nat, h1, e2, range_drop hlt]
      simp [turnP]
    · refine ⟨k, by omega, ?_⟩
      rw [ring_Ring.l0, if_neg (by omega), List.drop_eq_nil_of_le (by simp; omega), List.map_nil, List.append_nil]
      cases ring_Together.f k acc <;> rfl
  termination_by d => d
theorem ring_tells (n : Nat) (hn : 0 < n) (hn2 : n ≤ 40) (k : Nat) (hk : 16000 ≤ k) : ∃ k', 12000 ≤ k' ∧ ring_Ring.f k (n : Int) = ring_Together.f k' (turns n) := by
  obtain ⟨k, rfl⟩ : ∃ m, k = m + 1 := ⟨k - 1, by omega⟩
  obtain ⟨k', hk', e⟩ := ring_l0 n hn hn2 n k 0 [] rfl (Nat.zero_le _) (by omega) rfl
  rw [show ((0 : Nat) : Int) = 0 from rfl] at e
  refine ⟨k', hk', ?_⟩
  unfold ring_Ring.f
  rw [if_neg (by omega), ring_Ring.j0, if_neg (by simp; omega), e]
  simp [turns]
theorem turn_ins (n j : Nat) : ∀ x ∈ turnP n j, (x.f0 = 3 ∨ x.f0 = 4) ∧ x.f1 = 0 ∧ x.f2 = 0 ∧ x.f3 = 0 ∧ x.f4 = ⟨#[]⟩ := by
  intro x hx
  unfold turnP at hx
  simp only [List.mem_cons, List.mem_append, List.mem_replicate, List.not_mem_nil, or_false] at hx
  rcases hx with rfl | ⟨_, rfl⟩ | rfl
  · exact ⟨.inl rfl, rfl, rfl, rfl, rfl⟩
  · exact ⟨.inr rfl, rfl, rfl, rfl, rfl⟩
  · exact ⟨.inl rfl, rfl, rfl, rfl, rfl⟩
theorem vi_turn (n j : Nat) : VI (turnP n j) := by
  intro i hi
  obtain ⟨h0, h1, h2, h3, h4⟩ := turn_ins n j _ (List.getElem_mem hi)
  refine .inr (.inl ⟨by omega, ?_, ?_, h3, by rw [h4]⟩)
  · rw [h1]; exact ⟨by decide, by decide⟩
  · rw [h2]; exact ⟨by decide, by decide⟩
theorem sizes_zero : ∀ p : List Ins, (∀ x ∈ p, x.f4 = ⟨#[]⟩) → sizes p = 0
  | [], _ => rfl
  | x :: p, h => by
    have ih := sizes_zero p fun y hy => h y (List.mem_cons_of_mem _ hy)
    unfold sizes at *
    rw [List.map_cons, List.sum_cons, ih, h x List.mem_cons_self]
    rfl
theorem turn_size (n j : Nat) : sizes (turnP n j) = 0 := sizes_zero _ fun x hx => (turn_ins n j x hx).2.2.2.2
theorem okp_turn (n j : Nat) (hn : 0 < n) (h : n ≤ 40) : OKP (turnP n j) := by
  have hm : (j + 1) % n < n := Nat.mod_lt _ hn
  exact okp_iff.2 ⟨by unfold turnP; simp; omega, by rw [turn_size]; omega, vi_turn n j⟩
theorem okp_turns (n : Nat) (hn : 0 < n) (h : n ≤ 40) : ∀ p ∈ turns n, OKP p := by
  intro p hp
  obtain ⟨j, _, rfl⟩ := List.mem_map.1 hp
  exact okp_turn n j hn h
end Go.Proofs.YtpnmmpfidiegcaaGreatDoor.Plain
end
section
namespace Go.Proofs.YtpnmmpfidiegcaaGreatDoor.Plain
open Go.Proofs.YtpnmmpfidiegcaaGreatDoor.C
open Go.RowKit Go.Proofs.YtpnmmpfidiegcaaGreatDoorW.PrintWords Go.Proofs.YtpnmmpfidiegcaaGreatDoorW.PrintLast Go.Proofs.YtpnmmpfidiegcaaGreatDoorW.PrintMore
set_option linter.unusedVariables false
set_option linter.unusedSimpArgs false
theorem dec_codeL {p : List Ins} (h : OKP p) : dec (codeL p) = codeT p := by rw [← codeT_enc (okp_nice h), dec_enc]
theorem codeT_size {p : List Ins} (h : OKP p) : (codeT p).size = (codeL p).length := by rw [← Tr.enc_length, codeT_enc (okp_nice h)]
theorem sizes_spec (y : ByteArray) : sizes (specHead y) = y.size + 1 := rfl
end Go.Proofs.YtpnmmpfidiegcaaGreatDoor.Plain
end
section
namespace Go.Proofs.YtpnmmpfidiegcaaGreatDoor.Plain
open Go.Proofs.YtpnmmpfidiegcaaGreatDoor.C
set_option linter.unusedVariables false
set_option linter.unusedSimpArgs false
theorem numT_size : ∀ n, (numT n).size = 2 * n + 1
  | 0 => rfl
  | n + 1 => by
    show 1 + 1 + (numT n).size = _
    rw [numT_size n]; omega
theorem dec_bl_size {s : ByteArray} (h : ValidT s) : (dec (bl s)).size = s.size := by rw [← Tr.enc_length, enc_dec h.2]; exact bl_len s
theorem itemT_bound {x : Ins} {i n : Int} {M : Nat} (h : Right x i n) (hi : i ≤ (M : Int)) (hn : n - i ≤ (M : Int)) : (itemT x).size ≤ 300 + 2 * M + x.f4.size := by
  have e : (itemT x).size = 1 + (numT x.f0.toNat).size + (bodyT x).size := rfl
  rw [e, numT_size]
  unfold bodyT
  unfold Right Reg at h
  rcases h with ⟨h0, h1, h2, h3, h4⟩ | ⟨h0, h1, h2, h3, h4⟩ | ⟨h0, h1, h2, h3, h4⟩ | ⟨h0, h1, h2, h3, h4, h5⟩
  · rw [if_pos h0]
    show _ + (1 + (numT x.f1.toNat).size + (dec (bl x.f4)).size) ≤ _
    rw [numT_size, dec_bl_size h4]
    omega
  · rw [if_neg (by omega), if_neg (by omega), if_neg (by omega)]
    show _ + (1 + (numT x.f1.toNat).size + (numT x.f2.toNat).size) ≤ _
    rw [numT_size, numT_size]
    omega
  · rw [if_neg (by omega), if_pos h0]
    show _ + (1 + (numT x.f1.toNat).size + (1 + (numT x.f2.toNat).size + (numT x.f3.toNat).size)) ≤ _
    rw [numT_size, numT_size, numT_size]
    omega
  · rw [if_neg (by omega), if_neg (by omega), if_pos h0]
    split
    · show _ + (1 + (numT x.f1.toNat).size + (1 + 3 + (numT (-x.f2).toNat).size)) ≤ _
      rw [numT_size, numT_size]
      omega
    · show _ + (1 + (numT x.f1.toNat).size + (1 + 1 + (numT x.f2.toNat).size)) ≤ _
      rw [numT_size, numT_size]
      omega
theorem lstT_bound (b : Nat) : ∀ l : List Ins, (∀ x ∈ l, (itemT x).size ≤ b + x.f4.size) → (lstT (l.map itemT)).size ≤ l.length * (b + 1) + sizes l + 1
  | [], _ => by simp [lstT, Tr.size]
  | x :: l, h => by
    have ih := lstT_bound b l fun y hy => h y (List.mem_cons_of_mem _ hy)
    have h1 := h x List.mem_cons_self
    have e : (lstT ((x :: l).map itemT)).size = 1 + (itemT x).size + (lstT (l.map itemT)).size := rfl
    have es : sizes (x :: l) = x.f4.size + sizes l := by unfold sizes; simp
    rw [e, es, List.length_cons, Nat.succ_mul]
    omega
theorem codeT_bound {p : List Ins} (h : OKP p) : (codeT p).size ≤ p.length * (301 + 2 * p.length) + sizes p + 1 := by
  have := lstT_bound (300 + 2 * p.length) p fun x hx => by
    obtain ⟨j, hj, rfl⟩ := List.mem_iff_getElem.1 hx
    exact itemT_bound ((okp_iff.1 h).2.2 j hj) (by omega) (by omega)
  have e : 300 + 2 * p.length + 1 = 301 + 2 * p.length := by omega
  rw [e] at this
  exact this
end Go.Proofs.YtpnmmpfidiegcaaGreatDoor.Plain
end
section
namespace Go.Proofs.YtpnmmpfidiegcaaGreatDoor.Plain
open Go.Proofs.YtpnmmpfidiegcaaGreatDoor.C
open Go.RowKit Go.Proofs.YtpnmmpfidiegcaaGreatDoorW.PrintWords Go.Proofs.YtpnmmpfidiegcaaGreatDoorW.PrintLast Go.Proofs.YtpnmmpfidiegcaaGreatDoorW.PrintMore
set_option linter.unusedVariables false
set_option linter.unusedSimpArgs false
theorem sizes_append (p q : List Ins) : sizes (p ++ q) = sizes p + sizes q := by unfold sizes; rw [List.map_append, List.sum_append]
theorem head_sizes : sizes ringHead ≤ 1000 := by decide +kernel
theorem lsum_le {b : Nat} : ∀ l : List (List Ins), (∀ e ∈ l, (codeL e).length ≤ b) → lsum l ≤ l.length * (b + 1)
  | [], _ => by simp [lsum]
  | e :: l, h => by
    have ih := lsum_le l fun x hx => h x (List.mem_cons_of_mem _ hx)
    have h1 := h e List.mem_cons_self
    rw [lsum, List.length_cons, Nat.succ_mul]
    omega
theorem behind_length (l : List (List Ins)) : (behind l).length = l.length := by unfold behind; rw [List.length_map]
theorem made_length (l : List (List Ins)) : (madeL l).length = l.length := by unfold madeL; rw [List.length_map]
def Little (B : Nat) (p : List Ins) : Prop := OKP p ∧ p.length ≤ 3000 ∧ sizes p ≤ 100000 ∧ (codeL (ringHead ++ p)).length ≤ B
theorem okp_behind {B : Nat} {p : List Ins} (h : Little B p) : OKP (ringHead ++ p) := by
  obtain ⟨h1, h2, h3, _⟩ := h
  refine okp_iff.2 ⟨by rw [List.length_append, ringHead_length]; omega, ?_, vi_append vi_ringHead (okp_iff.1 h1).2.2⟩
  rw [sizes_append]
  have := head_sizes
  omega
theorem behind_sum {B : Nat} {l : List (List Ins)} (h : ∀ p ∈ l, Little B p) : lsum (behind l) ≤ l.length * (B + 1) := by
  have := lsum_le (b := B) (behind l) fun e he => by
    obtain ⟨p, hp, rfl⟩ := List.mem_map.1 he
    exact (h p hp).2.2.2
  rwa [behind_length] at this
theorem good_behind {B : Nat} {l : List (List Ins)} (h : ∀ p ∈ l, Little B p) (hs : l.length * (B + 1) ≤ 1000000) : GoodL (behind l) := by
  refine ⟨fun e he => ?_, by have := behind_sum h; omega⟩
  obtain ⟨p, hp, rfl⟩ := List.mem_map.1 he
  exact okp_behind (h p hp)
theorem made_okp {B : Nat} {l : List (List Ins)} (h : ∀ p ∈ l, Little B p) (hs : l.length * (B + 1) ≤ 1000000) : ∀ e ∈ madeL (behind l), OKP e ∧ (codeL e).length ≤ l.length * (B + 1) + B + 60 := by
  intro e he
  have hg := good_behind h hs
  have hy : (bs (tabL (behind l))).size ≤ l.length * (B + 1) + 1 := by rw [bs_size, tabL_length]; have := behind_sum h; omega
  have hv := vi_specHead (validT_tab hg)
  have hY : (dec (tabL (behind l))).size ≤ l.length * (B + 1) + 1 := by
    have hT : IsT (tabL (behind l)) := by have := (validT_tab hg).2; rwa [bl_bs] at this
    rw [← Tr.enc_length, enc_dec hT, tabL_length]
    have := behind_sum h
    omega
  obtain ⟨r, hr, rfl⟩ := List.mem_map.1 he
  obtain ⟨p, hp, rfl⟩ := List.mem_map.1 hr
  have hb := okp_behind (h p hp)
  obtain ⟨h1, h2, h3, h4⟩ := h p hp
  have hp' : OKP (specHead (bs (tabL (behind l))) ++ (ringHead ++ p)) := by
    refine okp_iff.2 ⟨by rw [List.length_append, List.length_append, ringHead_length]; show 3 + (30 + p.length) ≤ _; omega, ?_, vi_append hv (okp_iff.1 hb).2.2⟩
    rw [sizes_append, sizes_append, sizes_spec]
    have := head_sizes
    omega
  refine ⟨hp', ?_⟩
  have h6 := codeT_size hb
  rw [← codeT_size hp', codeT_spec, bl_bs]
  generalize dec (tabL (behind l)) = Y at *
  generalize codeT (ringHead ++ p) = c at *
  show 1 + (1 + 1 + (1 + 3 + Y.size)) + (1 + 13 + (1 + 7 + c.size)) ≤ _
  omega
theorem fine_of {B : Nat} {l : List (List Ins)} (h : ∀ p ∈ l, Little B p) (hs : l.length * (B + 1) ≤ 1000000) (hs2 : l.length * (l.length * (B + 1) + B + 61) < 2000000) : Fine l := by
  refine ⟨good_behind h hs, fun e he => (made_okp h hs e he).1, ?_⟩
  have := lsum_le (b := l.length * (B + 1) + B + 60) (madeL (behind l)) fun e he => (made_okp h hs e he).2
  rw [made_length, behind_length] at this
  exact Nat.lt_of_le_of_lt this hs2
theorem lstT_le {b : Nat} : ∀ l : List Tr, (∀ t ∈ l, t.size ≤ b) → (lstT l).size ≤ l.length * (b + 1) + 1
  | [], _ => by simp [lstT, Tr.size]
  | t :: l, h => by
    have ih := lstT_le l fun x hx => h x (List.mem_cons_of_mem _ hx)
    have h1 := h t List.mem_cons_self
    have e : (lstT (t :: l)).size = 1 + t.size + (lstT l).size := rfl
    rw [e, List.length_cons, Nat.succ_mul]
    omega
theorem codes_le {B : Nat} {l : List (List Ins)} (h : ∀ p ∈ l, Little B p) (hs : l.length * (B + 1) ≤ 1000000) : (lstT ((madeL (behind l)).map codeT)).size ≤ l.length * (l.length * (B + 1) + B + 61) + 1 := by
  have := lstT_le (b := l.length * (B + 1) + B + 60) ((madeL (behind l)).map codeT) fun t ht => by
    obtain ⟨e, he, rfl⟩ := List.mem_map.1 ht
    rw [codeT_size (made_okp h hs e he).1]
    exact (made_okp h hs e he).2
  rw [List.length_map, made_length, behind_length] at this
  exact this
set_option maxRecDepth 100000 in
theorem turn12 : ∀ m : Fin 12, (codeL (ringHead ++ (iHead :: (List.replicate m.1 iTail ++ [iHead])))).length ≤ 6000 := by decide +kernel
theorem turn_code {n j : Nat} (hn : 0 < n) (h : n ≤ 12) : (codeL (ringHead ++ turnP n j)).length ≤ 6000 :=
  turn12 ⟨(j + 1) % n, by have := Nat.mod_lt (j + 1) hn; omega⟩
theorem little_turn {n j : Nat} (hn : 0 < n) (h : n ≤ 12) : Little 6000 (turnP n j) := by
  have hm : (j + 1) % n < n := Nat.mod_lt _ hn
  have a1 := okp_turn n j hn (by omega)
  have a2 : (turnP n j).length ≤ 3000 := by unfold turnP; rw [List.length_cons, List.length_append, List.length_replicate, List.length_singleton]; omega
  have a3 := turn_size n j
  have a4 := turn_code (j := j) hn h
  exact ⟨a1, a2, by omega, a4⟩
theorem little_turns {n : Nat} (hn : 0 < n) (h : n ≤ 12) : ∀ p ∈ turns n, Little 6000 p := by
  intro p hp
  obtain ⟨j, _, rfl⟩ := List.mem_map.1 hp
  exact little_turn hn h
set_option maxRecDepth 100000 in
theorem turn_sum {n : Nat} (h : n ≤ 12) : n * (6000 + 1) ≤ 72012 ∧ n * (n * (6000 + 1) + 6000 + 61) ≤ 936900 := by
  have h1 : n * 6001 ≤ 12 * 6001 := Nat.mul_le_mul_right _ h
  refine ⟨by omega, ?_⟩
  have h3 : n * (6000 + 1) + 6000 + 61 ≤ 78073 := by omega
  generalize n * (6000 + 1) + 6000 + 61 = m at h3
  have h2 : n * m ≤ 12 * m := Nat.mul_le_mul_right _ h
  omega
theorem fine12 {n : Nat} (hn : 0 < n) (h : n ≤ 12) : Fine (turns n) := by
  have := turn_sum h
  refine fine_of (little_turns hn h) (by rw [turns_length]; omega) (by rw [turns_length]; omega)
def ringOf (n : Nat) : List (List Ins) := madeL (behind (turns n))
theorem ringOf_length (n : Nat) : (ringOf n).length = n := by unfold ringOf; rw [made_length, behind_length, turns_length]
theorem made_at (l : List (List Ins)) (j : Nat) (hj : j < l.length) : (madeL (behind l))[j]'(by rw [made_length, behind_length]; exact hj) = specHead (bs (tabL (behind l))) ++ ringHead ++ l[j] := by
  rw [List.append_assoc]
  unfold madeL
  rw [List.getElem_map]
  congr 1
  unfold behind
  rw [List.getElem_map]
def later (m : Nat) (q : Tr × Nat × Int) : Tr × Nat × Int := (q.1, if q.2.2 = 0 then q.2.1 + m else 0, q.2.2)
theorem knows_run (l : List (List Ins)) {N : Nat} (hN : l.length = N) (hok : ∀ p ∈ l, OKP p) (hf : Fine l) (j : Nat) (hj : j < l.length) (x : Tr) (hz : 1 + (lstT ((madeL (behind l)).map codeT)).size + x.size ≤ 2000000) (k : Nat) :
    runM ((madeL (behind l))[j]'(by rw [made_length, behind_length]; exact hj)) x (24 + 11 * N + k) = later (24 + 11 * N) (runM l[j] (.cons (lstT ((madeL (behind l)).map codeT)) x) k) := by
  have hNi : ∀ p ∈ l, ∀ x ∈ ringHead ++ p, Nice x := fun p hp => okp_nice (hf.1.1 _ (List.mem_map.2 ⟨p, hp, rfl⟩))
  have hp := hok l[j] (List.getElem_mem hj)
  have hb := ring_begins l hNi l[j] (List.getElem_mem hj) x hz
  have hr := run_behind (pre := specHead (bs (tabL (behind l))) ++ ringHead) (p := l[j]) (m := 24 + 11 * l.length) (x := x) (y := .cons (lstT ((madeL (behind l)).map codeT)) x) (fun i hi => by
    have := (okp_iff.1 hp).2.2 i hi
    rw [List.getD_eq_getElem?_getD, List.getElem?_eq_getElem hi]
    exact this) hb k
  subst hN
  rw [made_at l j hj]
  exact hr
theorem ring_runs (n j : Nat) (hn : 0 < n) (h : n ≤ 12) (hj : j < n) (x : Tr) (hx : x.size ≤ 1000000) (k : Nat) :
    runM ((ringOf n)[j]'(by rw [ringOf_length]; exact hj)) x (26 + 11 * n + (j + 1) % n + k) = (codeT ((ringOf n)[(j + 1) % n]'(by rw [ringOf_length]; exact Nat.mod_lt _ hn)), 26 + 11 * n + (j + 1) % n, 0) := by
  have hm : (j + 1) % n < n := Nat.mod_lt _ hn
  have hs := turn_sum h
  have hz := codes_le (little_turns hn h) (by rw [turns_length]; omega)
  rw [turns_length] at hz
  have hk := knows_run (turns n) (turns_length n) (fun p hp => (little_turns hn h p hp).1) (fine12 hn h) j (by rw [turns_length]; exact hj) x (by omega) (2 + (j + 1) % n + k)
  rw [show 26 + 11 * n + (j + 1) % n + k = 24 + 11 * n + (2 + (j + 1) % n + k) from by omega]
  refine hk.trans ?_
  have ht : (turns n)[j]'(by rw [turns_length]; exact hj) = turnP n j := by unfold turns; rw [List.getElem_map, List.getElem_range]
  have hl : ((madeL (behind (turns n))).map codeT).length = n := by rw [List.length_map, made_length, behind_length, turns_length]
  rw [ht, turn_run n j _ x hn hl _ (by omega)]
  unfold later
  dsimp only
  rw [if_pos rfl, List.getD_eq_getElem?_getD, List.getElem?_eq_getElem (by rw [hl]; exact hm), List.getElem_map]
  refine Prod.ext rfl (Prod.ext ?_ rfl)
  show (j + 1) % n + 2 + (24 + 11 * n) = 26 + 11 * n + (j + 1) % n
  omega
end Go.Proofs.YtpnmmpfidiegcaaGreatDoor.Plain
end
section
namespace Go.Proofs.YtpnmmpfidiegcaaGreatDoor.Plain
open Go.Proofs.YtpnmmpfidiegcaaGreatDoor.C
set_option linter.unusedVariables false
set_option linter.unusedSimpArgs false
def knowHead : List Ins := [⟨3, 2, 0, 0, ⟨#[]⟩⟩, ⟨4, 3, 0, 0, ⟨#[]⟩⟩, ⟨0, 4, 0, 0, ⟨#[49, 48, 48]⟩⟩, ⟨2, 4, 4, 2, ⟨#[]⟩⟩, ⟨2, 4, 1, 4, ⟨#[]⟩⟩, ⟨0, 5, 0, 0, ⟨#[49, 48, 49, 49, 48, 48, 48]⟩⟩, ⟨2, 5, 5, 2, ⟨#[]⟩⟩,
  ⟨0, 6, 0, 0, ⟨#[49, 49, 48, 49, 48, 48, 49, 48, 49, 49, 48, 48, 48]⟩⟩, ⟨2, 5, 6, 5, ⟨#[]⟩⟩, ⟨2, 5, 4, 5, ⟨#[]⟩⟩, ⟨2, 0, 5, 3, ⟨#[]⟩⟩,
  ⟨0, 2, 0, 0, ⟨#[48]⟩⟩, ⟨0, 3, 0, 0, ⟨#[48]⟩⟩, ⟨0, 4, 0, 0, ⟨#[48]⟩⟩, ⟨0, 5, 0, 0, ⟨#[48]⟩⟩, ⟨0, 6, 0, 0, ⟨#[48]⟩⟩]
theorem know_prefix {P : List Ins} {y : ByteArray} (H : ∀ i, i < 19 → P.getD i zz = (specHead y ++ knowHead).getD i zz) (hlen : 19 ≤ P.length) (Y : Tr) (hy : dec (bl y) = Y) (x : Tr)
    (hz : 1 + (cellT Y Y).size + x.size ≤ 2000000) : Goes P 19 0 (init x) 19 (init (.cons (cellT Y Y) x)) := by
  have hx := Tr.size_pos x
  have h2 : (cellT Y Y).size = 1 + (1 + 1 + (1 + t100.size + Y.size)) + (1 + tPut.size + (1 + tClear.size + Y.size)) := rfl
  have h3 : tPut.size = 13 := rfl
  have h4 : tClear.size = 7 := rfl
  have h5 : t100.size = 3 := rfl
  rw [init_mk, init_mk, show (19 : Nat) = 0 + 1 + 1 + 1 + 1 + 1 + 1 + 1 + 1 + 1 + 1 + 1 + 1 + 1 + 1 + 1 + 1 + 1 + 1 + 1 from rfl]
  refine go1 ⟨0, 1, 0, 0, y⟩ (by omega) (H 0 (by decide)) (ex_set 1 y _) (a1 := 1) rfl ?_
  rw [show ((1 : Int).toNat) = 1 from rfl, up1, hy]
  refine go1 ⟨2, 0, 1, 0, ⟨#[]⟩⟩ (by omega) (H 1 (by decide)) (ex_cons 0 1 0 _ (by show 1 + Y.size + x.size ≤ _; omega)) (a1 := 2) rfl ?_
  rw [show ((0 : Int).toNat) = 0 from rfl, up0]
  refine go1 ⟨0, 1, 0, 0, ⟨#[48]⟩⟩ (by omega) (H 2 (by decide)) (ex_set 1 _ _) (a1 := 3) rfl ?_
  rw [show ((1 : Int).toNat) = 1 from rfl, up1]
  refine go1 ⟨3, 2, 0, 0, ⟨#[]⟩⟩ (by omega) (H 3 (by decide)) (ex_head 2 0 _) (a1 := 4) rfl ?_
  rw [show ((2 : Int).toNat) = 2 from rfl, up2]
  refine go1 ⟨4, 3, 0, 0, ⟨#[]⟩⟩ (by omega) (H 4 (by decide)) (ex_tail 3 0 _) (a1 := 5) rfl ?_
  rw [show ((3 : Int).toNat) = 3 from rfl, up3]
  refine go1 ⟨0, 4, 0, 0, ⟨#[49, 48, 48]⟩⟩ (by omega) (H 5 (by decide)) (ex_set 4 _ _) (a1 := 6) rfl ?_
  rw [show ((4 : Int).toNat) = 4 from rfl, up4]
  refine go1 ⟨2, 4, 4, 2, ⟨#[]⟩⟩ (by omega) (H 6 (by decide)) (ex_cons 4 4 2 _ (by show 1 + 3 + Y.size ≤ _; omega)) (a1 := 7) rfl ?_
  rw [show ((4 : Int).toNat) = 4 from rfl, up4]
  refine go1 ⟨2, 4, 1, 4, ⟨#[]⟩⟩ (by omega) (H 7 (by decide)) (ex_cons 4 1 4 _ (by show 1 + 1 + (1 + 3 + Y.size) ≤ _; omega)) (a1 := 8) rfl ?_
  rw [show ((4 : Int).toNat) = 4 from rfl, up4]
  refine go1 ⟨0, 5, 0, 0, ⟨#[49, 48, 49, 49, 48, 48, 48]⟩⟩ (by omega) (H 8 (by decide)) (ex_set 5 _ _) (a1 := 9) rfl ?_
  rw [show ((5 : Int).toNat) = 5 from rfl, up5]
  refine go1 ⟨2, 5, 5, 2, ⟨#[]⟩⟩ (by omega) (H 9 (by decide)) (ex_cons 5 5 2 _ (by show 1 + 7 + Y.size ≤ _; omega)) (a1 := 10) rfl ?_
  rw [show ((5 : Int).toNat) = 5 from rfl, up5]
  refine go1 ⟨0, 6, 0, 0, ⟨#[49, 49, 48, 49, 48, 48, 49, 48, 49, 49, 48, 48, 48]⟩⟩ (by omega) (H 10 (by decide)) (ex_set 6 _ _) (a1 := 11) rfl ?_
  rw [show ((6 : Int).toNat) = 6 from rfl, up6]
  refine go1 ⟨2, 5, 6, 5, ⟨#[]⟩⟩ (by omega) (H 11 (by decide)) (ex_cons 5 6 5 _ (by show 1 + 13 + (1 + 7 + Y.size) ≤ _; omega)) (a1 := 12) rfl ?_
  rw [show ((5 : Int).toNat) = 5 from rfl, up5]
  refine go1 ⟨2, 5, 4, 5, ⟨#[]⟩⟩ (by omega) (H 12 (by decide)) (ex_cons 5 4 5 _ (by show 1 + (1 + 1 + (1 + 3 + Y.size)) + (1 + 13 + (1 + 7 + Y.size)) ≤ _; omega)) (a1 := 13) rfl ?_
  rw [show ((5 : Int).toNat) = 5 from rfl, up5]
  refine go1 ⟨2, 0, 5, 3, ⟨#[]⟩⟩ (by omega) (H 13 (by decide)) (ex_cons 0 5 3 _ hz) (a1 := 14) rfl ?_
  rw [show ((0 : Int).toNat) = 0 from rfl, up0]
  refine go1 ⟨0, 2, 0, 0, ⟨#[48]⟩⟩ (by omega) (H 14 (by decide)) (ex_set 2 _ _) (a1 := 15) rfl ?_
  rw [show ((2 : Int).toNat) = 2 from rfl, up2]
  refine go1 ⟨0, 3, 0, 0, ⟨#[48]⟩⟩ (by omega) (H 15 (by decide)) (ex_set 3 _ _) (a1 := 16) rfl ?_
  rw [show ((3 : Int).toNat) = 3 from rfl, up3]
  refine go1 ⟨0, 4, 0, 0, ⟨#[48]⟩⟩ (by omega) (H 16 (by decide)) (ex_set 4 _ _) (a1 := 17) rfl ?_
  rw [show ((4 : Int).toNat) = 4 from rfl, up4]
  refine go1 ⟨0, 5, 0, 0, ⟨#[48]⟩⟩ (by omega) (H 17 (by decide)) (ex_set 5 _ _) (a1 := 18) rfl ?_
  rw [show ((5 : Int).toNat) = 5 from rfl, up5]
  refine go1 ⟨0, 6, 0, 0, ⟨#[48]⟩⟩ (by omega) (H 18 (by decide)) (ex_set 6 _ _) (a1 := 19) rfl ?_
  rw [show ((6 : Int).toNat) = 6 from rfl, up6]
  exact Goes.refl _ _ _
def Far (x : Ins) (w : Nat) : Prop := x.f1.toNat ≠ w ∧ x.f2.toNat ≠ w ∧ x.f3.toNat ≠ w ∨ x.f0 = 5 ∧ x.f1.toNat ≠ w
theorem up_far (r : Rg) (w a : Nat) (c v : Tr) (h : a ≠ w) : upd (upd r w c) a v = upd (upd r a v) w c := by
  funext i
  unfold upd
  by_cases h1 : i = a
  · rw [if_pos h1, if_neg (by omega), if_pos h1]
  · simp [h1]
theorem up_get (r : Rg) (w a : Nat) (c : Tr) (h : a ≠ w) : upd r w c a = r a := by unfold upd; rw [if_neg h]
theorem exec_far (x : Ins) (w : Nat) (c : Tr) (h : Far x w) (r : Rg) : exec x (upd r w c) = (exec x r).map fun q => (q.1, upd q.2 w c) := by
  unfold exec
  rcases h with ⟨h1, h2, h3⟩ | ⟨h0, h1⟩
  · rw [up_get _ _ _ _ h1, up_get _ _ _ _ h2, up_get _ _ _ _ h3]
    simp only [up_far _ _ _ _ _ h1]
    repeat' (first | rfl | split)
  · rw [up_get _ _ _ _ h1]
    simp [h0]
theorem inside (pre p post : List Ins) (w : Nat) (c : Tr) (hf : ∀ x ∈ p, Far x w) (hp : ∀ j, j < p.length → Right (p.getD j zz) j p.length) : ∀ (k : Nat) (a : Int) (r : Rg), 0 ≤ a → a ≤ (p.length : Int) →
    Goes (pre ++ p ++ post) (after p k a r).2.2.1 ((pre.length : Int) + a) (upd r w c) ((pre.length : Int) + (after p k a r).1) (upd (after p k a r).2.1 w c) ∧ 0 ≤ (after p k a r).1 ∧ (after p k a r).1 ≤ (p.length : Int) ∧
    ((after p k a r).2.2.2 = true → (after p k a r).1 = (p.length : Int) ∨ (after p k a r).2.2.1 = k) ∧
    ((after p k a r).2.2.2 = false → (after p k a r).1 < (p.length : Int) ∧ exec (p.getD (after p k a r).1.toNat zz) (after p k a r).2.1 = none ∧ (after p k a r).2.2.1 < k) := by
  intro k
  induction k with
  | zero => intro a r h0 h1; exact ⟨Goes.refl _ _ _, h0, h1, fun _ => .inr rfl, fun h => by cases h⟩
  | succ k ih =>
    intro a r h0 h1
    by_cases he : a = (p.length : Int)
    · rw [after, if_pos he]
      exact ⟨Goes.refl _ _ _, h0, h1, fun _ => .inl he, fun h => by cases h⟩
    · obtain ⟨j, rfl⟩ := Int.eq_ofNat_of_zero_le h0
      have hj : j < p.length := by omega
      have hget : (pre ++ p ++ post).getD ((pre.length : Int) + (j : Int)).toNat zz = p.getD j zz := by
        rw [show ((pre.length : Int) + (j : Int)).toNat = pre.length + j from by omega, List.getD_eq_getElem?_getD, List.getElem?_append_left (by rw [List.length_append]; omega), List.getElem?_append_right (by omega), Nat.add_sub_cancel_left, ← List.getD_eq_getElem?_getD]
      have hm : p.getD j zz ∈ p := by rw [List.getD_eq_getElem?_getD, List.getElem?_eq_getElem hj]; exact List.getElem_mem hj
      have hr := hp j hj
      have hw : ∀ q, exec (p.getD j zz) r = some q → 0 ≤ (j : Int) + q.1 ∧ (j : Int) + q.1 ≤ (p.length : Int) := by
        intro q hq
        have := (after_behind pre p hp 1 j r (by omega) (by omega)).2
        rw [after, if_neg he, Int.toNat_natCast, hq] at this
        exact this
      rw [after, if_neg he, Int.toNat_natCast]
      have hfar := exec_far _ w c (hf _ hm) r
      cases hx : exec (p.getD j zz) r with
      | none => exact ⟨Goes.refl _ _ _, h0, h1, fun h => absurd h (by simp), fun _ => ⟨by show (j : Int) < _; omega, by rw [Int.toNat_natCast]; exact hx, by show 0 < _; omega⟩⟩
      | some q =>
        rw [hx] at hfar
        obtain ⟨w0, w1⟩ := hw q hx
        obtain ⟨g, i0, i1, i2, i3⟩ := ih ((j : Int) + q.1) q.2 w0 w1
        refine ⟨?_, i0, i1, fun h => (i2 h).imp id (fun e => by show _ + 1 = _; rw [e]), fun h => ⟨(i3 h).1, (i3 h).2.1, Nat.succ_lt_succ (i3 h).2.2⟩⟩
        exact go1 _ (by simp only [List.length_append]; omega) hget hfar (by show (pre.length : Int) + j + q.1 = _; omega) g
end Go.Proofs.YtpnmmpfidiegcaaGreatDoor.Plain
end
section
namespace Go.Proofs.YtpnmmpfidiegcaaGreatDoor.C
open Go.RowKit Go.Proofs.YtpnmmpfidiegcaaGreatDoorW.PrintWords Go.Proofs.YtpnmmpfidiegcaaGreatDoorW.PrintLast Go.Proofs.YtpnmmpfidiegcaaGreatDoorW.PrintMore
attribute [local go_sem] max2_int min2_int max_two min_two max_three min_three max_four min_four
set_option linter.unusedVariables false
set_option linter.unusedSimpArgs false
def code_Regs.l0 : Nat → Int → List (S52) → Int → Int → Option (Int × Int)
 | 0, _, _, _, _ => none
 | k + 1, x4, x10, x11, x12 => if x12 < x11 then (if 0 ≤ x12 then (if x12 < (x10.length : Int) then (if ((rd_T52 x10 x12).f0) = 5 then (code_Regs.l0 k (mx x4 ((rd_T52 x10 x12).f1)) x10 x11 (wrap64 (x12 + 1))) else (code_Regs.l0 k (mx (mx (mx x4 ((rd_T52 x10 x12).f1)) ((rd_T52 x10 x12).f2)) ((rd_T52 x10 x12).f3)) x10 x11 (wrap64 (x12 + 1)))) else (none)) else (none)) else (some (wrap64 (x4 + 1), 0))
def code_Regs.f (k : Nat) (l0 : List (S52)) : Option (Int × Int) := (code_Valid.f k l0).bind fun t1 => (if t1 = true then (code_Regs.l0 k 0 l0 (l0.length : Int) 0) else (some (0, 1)))
set_option maxHeartbeats 8000000 in
set_option maxRecDepth 100000 in
theorem code_Regs.calls (k : Nat) (A0 : Option Addr) (c0 : Nat) (l0 : List (S52)) (r1 : Int) (r2 : Int) (w : World) (hr0 : Kd.C k52 w A0 l0.length l0) (hc0 : l0.length ≤ c0) (h : code_Regs.f k l0 = some (r1, r2)) :
  Calls Tryz.prog 30 #[.slice A0 l0.length c0] w fun e w' => e = .returned (.tuple #[.int .i64 r1, .int .i64 r2]) ∧ Below w.heap.size w w' := by
 have hu52 := Tryz.underlying52
 have HR0 := Aside0.mk hr0
 have HC0 := Aside0.mk hc0
 clear hr0 hc0
 have HB := Aside0.mk (Below.refl w.heap.size w)
 have H : ((code_Valid.f k l0).bind fun t1 => (if t1 = true then (code_Regs.l0 k 0 l0 (l0.length : Int) 0) else (some (0, 1)))) = some (r1, r2) := h
 clear h
 replace H := Option.bind_eq_some_iff.mp H
 obtain ⟨t1, A20, H⟩ := H
 replace H : (if t1 = true then (code_Regs.l0 k 0 l0 (l0.length : Int) 0) else (some (0, 1))) = some (r1, r2) := H
 have A2 := Aside0.mk A20
 clear A20
 by_cases c3 : t1 = true
 ·subst c3
  have H1 : (code_Regs.l0 k 0 l0 (l0.length : Int) 0) = some (r1, r2) := by rw [if_pos rfl] at H; exact H
  clear H
  have H := H1
  clear H1
  have H' := Aside0.mk H
  clear H
  go_enter Tryz.func30, Tryz.ntmps30
  go_wp2_with (first | ((with_reducible refine gate_callee (f := 23) rfl ?_); refine goesL_ (some 8) rfl rfl Tryz.func23 (by kernel_rfl) rfl #[.slice A0 l0.length c0] rfl (by (try simp only [List.map_toArray, List.map_cons, List.map_nil]); first | done | rfl | (simp only [List.length_drop, List.length_take]; rfl)) ?_; (with_reducible refine (code_Valid.calls k _ _ l0 true _ ?side1 ?side2 A2.out).mono ?_); (case side1 => repeat (first | exact HR0.out | (with_reducible refine Kd.C_alloc ?_ _) | (with_reducible refine Kd.C_drewN ?_ _) | (with_reducible refine Kd.C_drew ?_))); (case side2 => exact HC0.out); rintro e w4 ⟨rfl, hb⟩; refine ⟨_, rfl, ?_⟩; have n0_ := Aside0.mk (below_step (by repeat (first | (with_reducible first | exact HB.out | apply below_alloc | apply pw_below_drewN | apply below_drew1) | exact HB.out)) hb); clear HB; have HB := n0_; clear n0_; (try clear hb); (try clear hb2); (try clear hk); (try clear hi)))
  go_loopg [4, 12] k (fun kq v4 v12 w' => ∃ (x4_1 : Int) (x12_1 : Int), v4 = .int .i64 x4_1 ∧ v12 = .int .i64 x12_1 ∧ Aside0 (code_Regs.l0 kq x4_1 l0 (l0.length : Int) x12_1 = some (r1, r2)) ∧ Aside0 (kq ≤ k) ∧ Aside0 (Below w.heap.size w w'))
  case atStart => exact ⟨(0), (0), (by first | rfl | (simp; done) | (simp [*]; done)), (by first | rfl | (simp; done) | (simp [*]; done)), H', ⟨Nat.le_refl _⟩, ⟨by repeat (first | (with_reducible first | exact HB.out | apply below_alloc | apply pw_below_drewN | apply below_drew1) | exact HB.out)⟩⟩
  case round =>
   clear H'
   try clear c2
   try clear p2
   try clear c3
   obtain ⟨x4_1, x12_1, rfl, rfl, HA, HK1, HB⟩ := hrel
   cases gk with
   | zero => exact absurd HA.out (by simp [code_Regs.l0])
   | succ k1 =>
    have H := HA.out
    clear HA
    simp only [code_Regs.l0] at H
    by_cases c5 : x12_1 < (l0.length : Int)
    ·rw [if_pos c5] at H
     have c5b0 : decide (x12_1 < (l0.length : Int)) = true := decide_eq_true c5
     clear c5
     by_cases c6 : 0 ≤ x12_1
     ·rw [if_pos c6] at H
      have c6b0 : decide (0 ≤ x12_1) = true := decide_eq_true c6
      clear c6
      by_cases c7 : x12_1 < (l0.length : Int)
      ·rw [if_pos c7] at H
       have c7b0 : decide (x12_1 < (l0.length : Int)) = true := decide_eq_true c7
       clear c7
       obtain ⟨ji8, hji8⟩ : ∃ j_ : Int, (mx x4_1 ((rd_T52 l0 x12_1).f1)) = j_ := ⟨_, rfl⟩
       replace H : (if ((rd_T52 l0 x12_1).f0) = 5 then (code_Regs.l0 k1 ji8 l0 (l0.length : Int) (wrap64 (x12_1 + 1))) else (code_Regs.l0 k1 (mx (mx (ji8) ((rd_T52 l0 x12_1).f2)) ((rd_T52 l0 x12_1).f3)) l0 (l0.length : Int) (wrap64 (x12_1 + 1)))) = some (r1, r2) := by first | (rw [hji8] at H; exact H) | (simp only [hji8] at H ⊢; exact H)
       have hji8_ : (if x4_1 < ((rd_T52 l0 x12_1).f1) then ((rd_T52 l0 x12_1).f1) else x4_1) = ji8 := hji8
       by_cases c9 : ((rd_T52 l0 x12_1).f0) = 5
       ·rw [if_pos c9] at H
        have c9b0 : (((rd_T52 l0 x12_1).f0) == 5) = true := beq_iff_eq.mpr c9
        have c9b1 : (((rd_T52 l0 x12_1).f0) != 5) = false := bne_eq_false_iff_eq.mpr c9
        clear c9
        have H' := Aside0.mk H
        clear H
        have p2 : 0 ≤ (x12_1 : Int) := of_decide_eq_true (by first | (with_reducible assumption) | assumption)
        have q2 : x12_1 < (l0.length : Int) := of_decide_eq_true (by first | (with_reducible assumption) | assumption)
        obtain ⟨ad2, e2, hx2_0, hx2_1, hx2_2, hx2_3, hx2_4⟩ := at_T52 HR0.out x12_1 p2 q2
        cases e2
        replace hx2_0 := (HB.out.cell (World.block_lt_of_cell? w _ hx2_0)).trans hx2_0
        replace hx2_1 := (HB.out.cell (World.block_lt_of_cell? w _ hx2_1)).trans hx2_1
        replace hx2_2 := (HB.out.cell (World.block_lt_of_cell? w _ hx2_2)).trans hx2_2
        replace hx2_3 := (HB.out.cell (World.block_lt_of_cell? w _ hx2_3)).trans hx2_3
        replace hx2_4 := (HB.out.cell (World.block_lt_of_cell? w _ hx2_4)).trans hx2_4
        replace p2 := eq_true p2
        replace q2 := eq_true q2
        go_wp2_with (first | ((with_reducible refine gate_dst (N := 6) rfl ?_); refine box_event ?hg (N := 6) ?hd (cs := #[.int .i64 0, .int .i64 0, .int .i64 0, .int .i64 0, .string (⟨#[]⟩ : ByteArray)]) (t := 52) ?hr ?_; (case hd => rfl); (case hg => rfl); (case hr => first | (go_simp; done) | (go_simp; rfl)); intro gb3 hg w10 hbox hb; have n0_ := Aside0.mk (below_step (by repeat (first | (with_reducible first | exact HB.out | apply below_alloc | apply pw_below_drewN | apply below_drew1) | exact HB.out)) hb); have n1_ := Aside0.mk (hbox); have n2_ := Aside0.mk ((by rw [hg]; exact (below_size (by repeat (first | (with_reducible first | exact HB.out | apply below_alloc | apply pw_below_drewN | apply below_drew1) | exact HB.out))) : w.heap.size ≤ gb3)); have n3_ := Aside0.mk ((by rw [hg]; exact (below_size (by repeat (first | (with_reducible first | exact HB.out | apply below_alloc | apply pw_below_drewN | apply below_drew1) | exact HB.out))) : w.heap.size ≤ gb3)); clear HB; have HB := n0_; have BK3 := n1_; have GW3 := n2_; have GE3 := n3_; clear n0_ n1_ n2_ n3_; clear hb hbox hg; have hcz11_0 : w10.cell? ⟨gb3, 0, none⟩ = some (.int .i64 0) := (blk_cell BK3.out 0).trans rfl; have hcz11_1 : w10.cell? ⟨gb3, 1, none⟩ = some (.int .i64 0) := (blk_cell BK3.out 1).trans rfl; have hcz11_2 : w10.cell? ⟨gb3, 2, none⟩ = some (.int .i64 0) := (blk_cell BK3.out 2).trans rfl; have hcz11_3 : w10.cell? ⟨gb3, 3, none⟩ = some (.int .i64 0) := (blk_cell BK3.out 3).trans rfl; have hcz11_4 : w10.cell? ⟨gb3, 4, none⟩ = some (.string (⟨#[]⟩ : ByteArray)) := (blk_cell BK3.out 4).trans rfl; have hfz11_0 := blk_frozen BK3.out 0; have hfz11_1 := blk_frozen BK3.out 1; have hfz11_2 := blk_frozen BK3.out 2; have hfz11_3 := blk_frozen BK3.out 3; have hfz11_4 := blk_frozen BK3.out 4))
        go_roundg k1
        case measure => have := HK1.out; omega
        case rel => exact ⟨(ji8), (wrap64 (x12_1 + 1)), (by first | rfl | (simp; done) | (simp only [← hji8] <;> (first | rfl | simp)) | (simp [*]; done)), (by first | rfl | (simp; done) | (simp [*]; done)), H', ⟨by have := HK1.out; omega⟩, ⟨by repeat (first | (with_reducible first | exact HB.out | apply below_alloc | apply pw_below_drewN | apply below_drew1 | refine below_set ?_ GE3.out) | exact HB.out)⟩⟩
       ·rw [if_neg c9] at H
        have c9b0 : (((rd_T52 l0 x12_1).f0) == 5) = false := beq_eq_false_iff_ne.mpr c9
        have c9b1 : (((rd_T52 l0 x12_1).f0) != 5) = true := bne_iff_ne.mpr c9
        obtain ⟨ji12, hji12⟩ : ∃ j_ : Int, (mx (ji8) ((rd_T52 l0 x12_1).f2)) = j_ := ⟨_, rfl⟩
        replace H : (code_Regs.l0 k1 (mx (ji12) ((rd_T52 l0 x12_1).f3)) l0 (l0.length : Int) (wrap64 (x12_1 + 1))) = some (r1, r2) := by first | (rw [hji12] at H; exact H) | (simp only [hji12] at H ⊢; exact H)
        have hji12_ : (if (ji8) < ((rd_T52 l0 x12_1).f2) then ((rd_T52 l0 x12_1).f2) else (ji8)) = ji12 := hji12
        obtain ⟨ji13, hji13⟩ : ∃ j_ : Int, (mx (ji12) ((rd_T52 l0 x12_1).f3)) = j_ := ⟨_, rfl⟩
        replace H : (code_Regs.l0 k1 ji13 l0 (l0.length : Int) (wrap64 (x12_1 + 1))) = some (r1, r2) := by first | (rw [hji13] at H; exact H) | (simp only [hji13] at H ⊢; exact H)
        have hji13_ : (if (ji12) < ((rd_T52 l0 x12_1).f3) then ((rd_T52 l0 x12_1).f3) else (ji12)) = ji13 := hji13
        have H' := Aside0.mk H
        clear H
        have p2 : 0 ≤ (x12_1 : Int) := of_decide_eq_true (by first | (with_reducible assumption) | assumption)
        have q2 : x12_1 < (l0.length : Int) := of_decide_eq_true (by first | (with_reducible assumption) | assumption)
        obtain ⟨ad2, e2, hx2_0, hx2_1, hx2_2, hx2_3, hx2_4⟩ := at_T52 HR0.out x12_1 p2 q2
        cases e2
        replace hx2_0 := (HB.out.cell (World.block_lt_of_cell? w _ hx2_0)).trans hx2_0
        replace hx2_1 := (HB.out.cell (World.block_lt_of_cell? w _ hx2_1)).trans hx2_1
        replace hx2_2 := (HB.out.cell (World.block_lt_of_cell? w _ hx2_2)).trans hx2_2
        replace hx2_3 := (HB.out.cell (World.block_lt_of_cell? w _ hx2_3)).trans hx2_3
        replace hx2_4 := (HB.out.cell (World.block_lt_of_cell? w _ hx2_4)).trans hx2_4
        replace p2 := eq_true p2
        replace q2 := eq_true q2
        go_wp2_with (first | ((with_reducible refine gate_dst (N := 6) rfl ?_); refine box_event ?hg (N := 6) ?hd (cs := #[.int .i64 0, .int .i64 0, .int .i64 0, .int .i64 0, .string (⟨#[]⟩ : ByteArray)]) (t := 52) ?hr ?_; (case hd => rfl); (case hg => rfl); (case hr => first | (go_simp; done) | (go_simp; rfl)); intro gb3 hg w14 hbox hb; have n0_ := Aside0.mk (below_step (by repeat (first | (with_reducible first | exact HB.out | apply below_alloc | apply pw_below_drewN | apply below_drew1) | exact HB.out)) hb); have n1_ := Aside0.mk (hbox); have n2_ := Aside0.mk ((by rw [hg]; exact (below_size (by repeat (first | (with_reducible first | exact HB.out | apply below_alloc | apply pw_below_drewN | apply below_drew1) | exact HB.out))) : w.heap.size ≤ gb3)); have n3_ := Aside0.mk ((by rw [hg]; exact (below_size (by repeat (first | (with_reducible first | exact HB.out | apply below_alloc | apply pw_below_drewN | apply below_drew1) | exact HB.out))) : w.heap.size ≤ gb3)); clear HB; have HB := n0_; have BK3 := n1_; have GW3 := n2_; have GE3 := n3_; clear n0_ n1_ n2_ n3_; clear hb hbox hg; have hcz15_0 : w14.cell? ⟨gb3, 0, none⟩ = some (.int .i64 0) := (blk_cell BK3.out 0).trans rfl; have hcz15_1 : w14.cell? ⟨gb3, 1, none⟩ = some (.int .i64 0) := (blk_cell BK3.out 1).trans rfl; have hcz15_2 : w14.cell? ⟨gb3, 2, none⟩ = some (.int .i64 0) := (blk_cell BK3.out 2).trans rfl; have hcz15_3 : w14.cell? ⟨gb3, 3, none⟩ = some (.int .i64 0) := (blk_cell BK3.out 3).trans rfl; have hcz15_4 : w14.cell? ⟨gb3, 4, none⟩ = some (.string (⟨#[]⟩ : ByteArray)) := (blk_cell BK3.out 4).trans rfl; have hfz15_0 := blk_frozen BK3.out 0; have hfz15_1 := blk_frozen BK3.out 1; have hfz15_2 := blk_frozen BK3.out 2; have hfz15_3 := blk_frozen BK3.out 3; have hfz15_4 := blk_frozen BK3.out 4))
        go_roundg k1
        case measure => have := HK1.out; omega
        case rel => exact ⟨(ji13), (wrap64 (x12_1 + 1)), (by first | rfl | (simp; done) | (simp only [← hji13] <;> (first | rfl | simp)) | (simp [*]; done)), (by first | rfl | (simp; done) | (simp [*]; done)), H', ⟨by have := HK1.out; omega⟩, ⟨by repeat (first | (with_reducible first | exact HB.out | apply below_alloc | apply pw_below_drewN | apply below_drew1 | refine below_set ?_ GE3.out) | exact HB.out)⟩⟩
      ·rw [if_neg c7] at H
       exact absurd H (by simp)
     ·rw [if_neg c6] at H
      exact absurd H (by simp)
    ·rw [if_neg c5] at H
     have c5b0 : decide (x12_1 < (l0.length : Int)) = false := decide_eq_false c5
     clear c5
     simp only [Option.some.injEq, Prod.mk.injEq] at H
     obtain ⟨rfl, rfl⟩ := H
     go_wp2
     go_ret2
     exact ⟨by first | rfl | (simp [errW_none, errW_some] <;> rfl) | (simp [*, errW_none, errW_some] <;> rfl), by repeat (first | (with_reducible first | exact HB.out | apply below_alloc | apply pw_below_drewN | apply below_drew1) | exact HB.out)⟩
 ·replace c3 := Bool.eq_false_iff.mpr c3
  subst c3
  have H1 : (some (0, 1)) = some (r1, r2) := by rw [if_neg (show ¬ (false = true) by decide)] at H; exact H
  clear H
  have H := H1
  clear H1
  simp only [Option.some.injEq, Prod.mk.injEq] at H
  obtain ⟨rfl, rfl⟩ := H
  go_enter Tryz.func30, Tryz.ntmps30
  go_wp2_with (first | ((with_reducible refine gate_callee (f := 23) rfl ?_); refine goesL_ (some 8) rfl rfl Tryz.func23 (by kernel_rfl) rfl #[.slice A0 l0.length c0] rfl (by (try simp only [List.map_toArray, List.map_cons, List.map_nil]); first | done | rfl | (simp only [List.length_drop, List.length_take]; rfl)) ?_; (with_reducible refine (code_Valid.calls k _ _ l0 false _ ?side1 ?side2 A2.out).mono ?_); (case side1 => repeat (first | exact HR0.out | (with_reducible refine Kd.C_alloc ?_ _) | (with_reducible refine Kd.C_drewN ?_ _) | (with_reducible refine Kd.C_drew ?_))); (case side2 => exact HC0.out); rintro e w16 ⟨rfl, hb⟩; refine ⟨_, rfl, ?_⟩; have n0_ := Aside0.mk (below_step (by repeat (first | (with_reducible first | exact HB.out | apply below_alloc | apply pw_below_drewN | apply below_drew1) | exact HB.out)) hb); clear HB; have HB := n0_; clear n0_; (try clear hb); (try clear hb2); (try clear hk); (try clear hi)))
  go_ret2
  exact ⟨by first | rfl | (simp [errW_none, errW_some] <;> rfl) | (simp [*, errW_none, errW_some] <;> rfl), by repeat (first | (with_reducible first | exact HB.out | apply below_alloc | apply pw_below_drewN | apply below_drew1) | exact HB.out)⟩
end Go.Proofs.YtpnmmpfidiegcaaGreatDoor.C
end
section
namespace Go.Proofs.YtpnmmpfidiegcaaGreatDoor.Plain
open Go.Proofs.YtpnmmpfidiegcaaGreatDoor.C
open Go.RowKit Go.Proofs.YtpnmmpfidiegcaaGreatDoorW.PrintWords Go.Proofs.YtpnmmpfidiegcaaGreatDoorW.PrintLast Go.Proofs.YtpnmmpfidiegcaaGreatDoorW.PrintMore
set_option linter.unusedVariables false
set_option linter.unusedSimpArgs false
theorem mx_is (a b : Int) : mx a b = if a < b then b else a := rfl
theorem mx_both {a b m : Int} (ha : a < m) (hb : b < m) : a ≤ mx a b ∧ b ≤ mx a b ∧ mx a b < m := by
  rw [mx_is]; split <;> omega
def Under (M : Int) (x : Ins) : Prop := x.f1 ≤ M ∧ (x.f0 ≠ 5 → x.f2 ≤ M ∧ x.f3 ≤ M)
theorem rightReg {x : Ins} {i n : Int} (h : Right x i n) : Reg x.f1 ∧ (x.f0 ≠ 5 → Reg x.f2 ∧ Reg x.f3) := by
  have z : ∀ {a : Int}, a = 0 → Reg a := fun e => by rw [e]; exact ⟨by decide, by decide⟩
  unfold Right at h
  rcases h with h | h | h | h
  · exact ⟨h.2.1, fun _ => ⟨z h.2.2.1, z h.2.2.2.1⟩⟩
  · exact ⟨h.2.1, fun _ => ⟨h.2.2.1, z h.2.2.2.1⟩⟩
  · exact ⟨h.2.1, fun _ => ⟨h.2.2.1, h.2.2.2.1⟩⟩
  · exact ⟨h.2.1, fun h5 => absurd h.1 h5⟩
end Go.Proofs.YtpnmmpfidiegcaaGreatDoor.Plain
end
