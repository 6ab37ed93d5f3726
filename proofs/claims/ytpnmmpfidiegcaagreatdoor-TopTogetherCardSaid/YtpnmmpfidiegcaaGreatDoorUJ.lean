/- Texts of this claim, together: what the functions return, and what they say in plain words. -/
import Derived.Test.YtpnmmpfidiegcaaGreatDoorUI
import Derived.Test.YtpnmmpfidiegcaaGreatDoorUC
import Derived.Test.YtpnmmpfidiegcaaGreatDoorUB
import Derived.Deep.RegionLaw
section
namespace Go.Proofs.YtpnmmpfidiegcaaGreatDoor.Plain
open Go.Proofs.YtpnmmpfidiegcaaGreatDoor.C
open Go.RowKit Go.Proofs.YtpnmmpfidiegcaaGreatDoorW.PrintWords Go.Proofs.YtpnmmpfidiegcaaGreatDoorW.PrintLast Go.Proofs.YtpnmmpfidiegcaaGreatDoorW.PrintMore
set_option linter.unusedVariables false
set_option linter.unusedSimpArgs false
def Reg (n : Int) : Prop := 0 ≤ n ∧ n < 32
def Right (x : Ins) (i n : Int) : Prop :=
  x.f0 = 0 ∧ Reg x.f1 ∧ x.f2 = 0 ∧ x.f3 = 0 ∧ ValidT x.f4 ∨
  (x.f0 = 1 ∨ x.f0 = 3 ∨ x.f0 = 4) ∧ Reg x.f1 ∧ Reg x.f2 ∧ x.f3 = 0 ∧ bl x.f4 = [] ∨
  x.f0 = 2 ∧ Reg x.f1 ∧ Reg x.f2 ∧ Reg x.f3 ∧ bl x.f4 = [] ∨
  x.f0 = 5 ∧ Reg x.f1 ∧ -i ≤ x.f2 ∧ x.f2 ≤ n - i ∧ x.f3 = 0 ∧ bl x.f4 = []
theorem nice_of_right {x : Ins} {i n : Int} (h : Right x i n) (hi : 0 ≤ i) (hn : n ≤ 4000) (hin : i ≤ n) : Nice x := by
  unfold Right Reg at h
  unfold Nice
  rcases h with ⟨h0, ⟨h1, h2⟩, h3, h4, h5, h6⟩ | ⟨h0, ⟨h1, h2⟩, ⟨h3, h4⟩, h5, h6⟩ | ⟨h0, ⟨h1, h2⟩, ⟨h3, h4⟩, ⟨h5, h6⟩, h7⟩ | ⟨h0, ⟨h1, h2⟩, h3, h4, h5, h6⟩
  · exact ⟨h1, by omega, .inl ⟨h0, h3, h4, h6, h5⟩⟩
  · exact ⟨h1, by omega, .inr (.inr (.inr ⟨h0, h3, by omega, h5, h6⟩))⟩
  · exact ⟨h1, by omega, .inr (.inl ⟨h0, h3, by omega, h5, by omega, h7⟩)⟩
  · exact ⟨h1, by omega, .inr (.inr (.inl ⟨h0, by omega, by omega, h5, h6⟩))⟩
def OKP (p : List Ins) : Prop := p.length ≤ 4000 ∧ (p.map fun x => x.f4.size).sum ≤ 2000000 ∧ ∀ j, j < p.length → Right (rd_T52 p (j : Int)) j p.length
theorem reg_l (l : List Int) : ∀ (d k : Nat) (i : Nat), l.length - i = d → i ≤ l.length → l.length ≤ 1000 → d < k → ∃ v, code_reg.l0 k l (l.length : Int) (i : Int) = some v ∧ (v = true ↔ ∀ a ∈ l.drop i, Reg a)
  | d, k, i, hd, hi, hb, hk => by
    obtain ⟨k, rfl⟩ : ∃ m, k = m + 1 := ⟨k - 1, by omega⟩
    by_cases hlt : i < l.length
    · have hdrop : l.drop i = l[i] :: l.drop (i + 1) := List.drop_eq_getElem_cons hlt
      have hrd : rd l (i : Int) = l[i] := by simp [rd, hlt]
      rw [code_reg.l0, if_pos (by omega), if_pos (by omega), if_pos (by omega), hrd, hdrop]
      by_cases h1 : l[i] < 0
      · rw [if_pos h1]
        refine ⟨false, rfl, ?_⟩
        constructor
        · intro h; cases h
        · intro h; have := (h l[i] List.mem_cons_self).1; omega
      · rw [if_neg h1]
        by_cases h2 : l[i] ≥ 32
        · rw [if_pos h2]
          refine ⟨false, rfl, ?_⟩
          constructor
          · intro h; cases h
          · intro h; have := (h l[i] List.mem_cons_self).2; omega
        · rw [if_neg h2, wrap_small (by omega) (by omega), show (i : Int) + 1 = ((i + 1 : Nat) : Int) from rfl]
          obtain ⟨v, e, hv⟩ := reg_l l (l.length - (i + 1)) k (i + 1) rfl (by omega) hb (by omega)
          refine ⟨v, e, hv.trans ?_⟩
          simp only [List.forall_mem_cons]
          constructor
          · intro h; exact ⟨⟨by omega, by omega⟩, h⟩
          · intro h; exact h.2
    · rw [code_reg.l0, if_neg (by omega)]
      refine ⟨true, rfl, ?_⟩
      rw [List.drop_eq_nil_of_le (by omega)]
      simp
  termination_by d => d
theorem reg_tells (l : List Int) (k : Nat) (hl : l.length ≤ 1000) (hk : l.length < k) : ∃ v, code_reg.f k l = some v ∧ (v = true ↔ ∀ a ∈ l, Reg a) := by
  unfold code_reg.f
  simpa using reg_l l l.length k 0 rfl (by omega) hl hk
theorem right_tells (x : Ins) (i n : Int) (hi : 0 ≤ i) (hin : i ≤ n) (hn : n ≤ 4000) (k : Nat) (hk : 8 ≤ k) :
    ∃ v, code_right.f k x.f0 x.f1 x.f2 x.f3 x.f4 i n = some v ∧ (v = true ↔ Right x i n) := by
  obtain ⟨k, rfl⟩ : ∃ m, k = m + 2 := ⟨k - 2, by omega⟩
  have hw1 : wrap64 (-i) = -i := wrap_small (by omega) (by omega)
  have hw2 : wrap64 (n - i) = n - i := wrap_small (by omega) (by omega)
  unfold code_right.f
  rw [toL]
  by_cases h0 : x.f0 = 0
  · rw [if_pos h0, if_neg (by omega)]
    rw [code_right.j0]
    by_cases h3 : x.f3 = 0
    · rw [if_neg (by simp [h3]), if_pos h0]
      obtain ⟨v, e, hv⟩ := reg_tells [x.f1] (k + 1) (by simp) (by simp; omega)
      rw [e, Option.bind_some]
      cases v with
      | false =>
        refine ⟨false, rfl, ?_⟩
        have : ¬ Reg x.f1 := by simpa using hv
        constructor
        · intro h; cases h
        · intro h; unfold Right at h; rcases h with h | h | h | h
          · exact absurd h.2.1 this
          · omega
          · omega
          · omega
      | true =>
        have hr : Reg x.f1 := by simpa using hv
        rw [if_pos rfl]
        by_cases h2 : x.f2 = 0
        · rw [if_pos h2]
          obtain ⟨v, e, hv⟩ := valid_tells x.f4
          rw [e]
          refine ⟨v, rfl, hv.trans ?_⟩
          constructor
          · intro h; exact .inl ⟨h0, hr, h2, h3, h⟩
          · intro h; unfold Right at h; rcases h with h | h | h | h
            · exact h.2.2.2.2
            · omega
            · omega
            · omega
        · rw [if_neg h2]
          refine ⟨false, rfl, ?_⟩
          constructor
          · intro h; cases h
          · intro h; unfold Right at h; rcases h with h | h | h | h
            · exact absurd h.2.2.1 h2
            · omega
            · omega
            · omega
    · rw [if_pos (by simp [h3])]
      refine ⟨false, rfl, ?_⟩
      constructor
      · intro h; cases h
      · intro h; unfold Right at h; rcases h with h | h | h | h
        · exact absurd h.2.2.2.1 h3
        · omega
        · omega
        · omega
  · rw [if_neg h0]
    by_cases ht : bl x.f4 = []
    · rw [if_pos ht]
      by_cases h2 : x.f0 = 2
      · rw [if_pos h2, code_right.j0, if_neg (by decide), if_neg h0, if_neg (by omega), if_neg (by omega), code_right.j1, if_neg (by simp [h2]), if_pos h2]
        obtain ⟨v, e, hv⟩ := reg_tells [x.f1, x.f2, x.f3] k (by simp) (by simp; omega)
        rw [e]
        refine ⟨v, rfl, hv.trans ?_⟩
        constructor
        · intro h; exact .inr (.inr (.inl ⟨h2, h _ (by simp), h _ (by simp), h _ (by simp), ht⟩))
        · intro h; unfold Right at h; rcases h with h | h | h | h
          · omega
          · omega
          · simp only [List.forall_mem_cons]; exact ⟨h.2.1, h.2.2.1, h.2.2.2.1, by simp⟩
          · omega
      · rw [if_neg h2, code_right.j0]
        by_cases h3 : x.f3 = 0
        · rw [if_neg (by simp [h3]), if_neg h0]
          have hj : ∀ b, (b = true ↔ (x.f0 = 1 ∨ x.f0 = 3 ∨ x.f0 = 4)) → ∃ v, code_right.j1 (k + 1) i n x.f0 b x.f0 x.f1 x.f2 x.f3 x.f4 = some v ∧ (v = true ↔ Right x i n) := by
            intro b hb
            rw [code_right.j1]
            cases b with
            | true =>
              have h134 := hb.1 rfl
              rw [if_pos rfl]
              obtain ⟨v, e, hv⟩ := reg_tells [x.f1, x.f2] k (by simp) (by simp; omega)
              rw [e]
              refine ⟨v, rfl, hv.trans ?_⟩
              constructor
              · intro h; exact .inr (.inl ⟨h134, h _ (by simp), h _ (by simp), h3, ht⟩)
              · intro h; unfold Right at h; rcases h with h | h | h | h
                · omega
                · simp only [List.forall_mem_cons]; exact ⟨h.2.1, h.2.2.1, by simp⟩
                · omega
                · omega
            | false =>
              have h134 : ¬ (x.f0 = 1 ∨ x.f0 = 3 ∨ x.f0 = 4) := fun h => by have := hb.2 h; cases this
              rw [if_neg (by decide), if_neg h2]
              by_cases h5 : x.f0 = 5
              · rw [if_pos h5]
                obtain ⟨v, e, hv⟩ := reg_tells [x.f1] k (by simp) (by simp; omega)
                rw [e, Option.bind_some]
                cases v with
                | false =>
                  have : ¬ Reg x.f1 := by simpa using hv
                  refine ⟨false, rfl, ?_⟩
                  constructor
                  · intro h; cases h
                  · intro h; unfold Right at h; rcases h with h | h | h | h
                    · omega
                    · omega
                    · omega
                    · exact absurd h.2.1 this
                | true =>
                  have hr : Reg x.f1 := by simpa using hv
                  rw [if_pos rfl, hw1, hw2]
                  by_cases hge : x.f2 ≥ -i
                  · rw [if_pos hge]
                    refine ⟨_, rfl, ?_⟩
                    rw [decide_eq_true_iff]
                    constructor
                    · intro h; exact .inr (.inr (.inr ⟨h5, hr, hge, h, h3, ht⟩))
                    · intro h; unfold Right at h; rcases h with h | h | h | h
                      · omega
                      · omega
                      · omega
                      · exact h.2.2.2.1
                  · rw [if_neg hge]
                    refine ⟨false, rfl, ?_⟩
                    constructor
                    · intro h; cases h
                    · intro h; unfold Right at h; rcases h with h | h | h | h
                      · omega
                      · omega
                      · omega
                      · exact absurd h.2.2.1 hge
              · rw [if_neg h5]
                refine ⟨false, rfl, ?_⟩
                constructor
                · intro h; cases h
                · intro h; unfold Right at h; rcases h with h | h | h | h
                  · omega
                  · exact absurd h.1 h134
                  · omega
                  · omega
          by_cases h1 : x.f0 = 1
          · rw [if_pos h1]
            exact hj _ (by simp [h1])
          · rw [if_neg h1]
            by_cases h33 : x.f0 = 3
            · rw [if_pos h33]
              exact hj _ (by simp [h33])
            · rw [if_neg h33]
              refine hj _ ?_
              rw [beq_iff_eq]
              omega
        · rw [if_pos (by simp [h3])]
          refine ⟨false, rfl, ?_⟩
          constructor
          · intro h; cases h
          · intro h; unfold Right at h; rcases h with h | h | h | h
            · omega
            · exact absurd h.2.2.2.1 h3
            · omega
            · exact absurd h.2.2.2.2.1 h3
    · rw [if_neg ht]
      refine ⟨false, ?_, ?_⟩
      · rw [code_right.j0, if_pos rfl]
      · constructor
        · intro h; cases h
        · intro h; unfold Right at h; rcases h with h | h | h | h
          · exact absurd h.1 h0
          · exact absurd h.2.2.2.2 ht
          · exact absurd h.2.2.2.2 ht
          · exact absurd h.2.2.2.2.2 ht
theorem rd_at (p : List Ins) (i : Nat) (h : i < p.length) : rd_T52 p (i : Int) = p[i] := by
  unfold rd_T52
  simp [h]
abbrev sizes (p : List Ins) : Nat := (p.map fun x => x.f4.size).sum
theorem mn_tells (a : Nat) : mn (a : Int) 2000001 = ((min a 2000001 : Nat) : Int) := by unfold mn; split <;> omega
theorem valid_l (p : List Ins) (hp : p.length ≤ 4000) : ∀ (d k i s : Nat), p.length - i = d → i ≤ p.length → s ≤ 2000000 → d + 8 < k →
    ∃ v, code_Valid.l0 k p (s : Int) p (p.length : Int) (i : Int) = some v ∧ (v = true ↔ s + sizes (p.drop i) ≤ 2000000 ∧ ∀ j, i ≤ j → j < p.length → Right (rd_T52 p (j : Int)) j p.length)
  | d, k, i, s, hd, hi, hs, hk => by
    obtain ⟨k, rfl⟩ : ∃ m, k = m + 1 := ⟨k - 1, by omega⟩
    by_cases hlt : i < p.length
    · have hdrop : p.drop i = p[i] :: p.drop (i + 1) := List.drop_eq_getElem_cons hlt
      rw [code_Valid.l0, if_pos (by omega), if_pos (by omega), if_pos (by omega), rd_at p i hlt, mn_tells]
      rw [wrap_small (by omega) (by omega), show (s : Int) + ((min p[i].f4.size 2000001 : Nat) : Int) = ((s + min p[i].f4.size 2000001 : Nat) : Int) from by omega]
      have hsum : sizes (p.drop i) = p[i].f4.size + sizes (p.drop (i + 1)) := by unfold sizes; rw [hdrop, List.map_cons, List.sum_cons]
      rw [hsum]
      by_cases hbig : ((s + min p[i].f4.size 2000001 : Nat) : Int) > 2000000
      · rw [if_pos hbig]
        refine ⟨false, rfl, ?_⟩
        constructor
        · intro h; cases h
        · intro h; omega
      · rw [if_neg hbig]
        obtain ⟨v, e, hv⟩ := right_tells p[i] (i : Int) (p.length : Int) (by omega) (by omega) (by omega) k (by omega)
        rw [e, Option.bind_some]
        cases v with
        | false =>
          refine ⟨false, rfl, ?_⟩
          constructor
          · intro h; cases h
          · intro ⟨_, h⟩
            have := h i (Nat.le_refl _) hlt
            rw [rd_at p i hlt] at this
            exact hv.2 this
        | true =>
          rw [if_pos rfl, wrap_small (by omega) (by omega), show (i : Int) + 1 = ((i + 1 : Nat) : Int) from rfl]
          obtain ⟨v, e, hv'⟩ := valid_l p hp (p.length - (i + 1)) k (i + 1) (s + min p[i].f4.size 2000001) rfl (by omega) (by omega) (by omega)
          refine ⟨v, e, hv'.trans ?_⟩
          constructor
          · intro ⟨h1, h2⟩
            refine ⟨by omega, fun j h3 h4 => ?_⟩
            by_cases hji : j = i
            · subst hji; rw [rd_at p j hlt]; exact hv.1 rfl
            · exact h2 j (by omega) h4
          · intro ⟨h1, h2⟩
            exact ⟨by omega, fun j h3 h4 => h2 j (by omega) h4⟩
    · rw [code_Valid.l0, if_neg (by omega)]
      refine ⟨true, rfl, ?_⟩
      rw [List.drop_eq_nil_of_le (by omega)]
      constructor
      · intro _; exact ⟨by simp [sizes]; exact hs, fun j h1 h2 => by omega⟩
      · intro _; rfl
  termination_by d => d
theorem validp_tells (p : List Ins) (k : Nat) (hk : 4010 ≤ k) : ∃ v, code_Valid.f k p = some v ∧ (v = true ↔ OKP p) := by
  unfold code_Valid.f
  by_cases h : (p.length : Int) > 4000
  · rw [if_pos h]
    refine ⟨false, rfl, ?_⟩
    constructor
    · intro h; cases h
    · intro h'; have := h'.1; omega
  · rw [if_neg h]
    obtain ⟨v, e, hv⟩ := valid_l p (by omega) p.length k 0 0 rfl (by omega) (by omega) (by omega)
    refine ⟨v, e, hv.trans ?_⟩
    unfold OKP
    constructor
    · intro ⟨h1, h2⟩; exact ⟨by omega, by simpa using h1, fun j hj => h2 j (by omega) hj⟩
    · intro ⟨h1, h2, h3⟩; exact ⟨by simpa using h2, fun j _ hj => h3 j hj⟩
theorem validp_yes {p : List Ins} {k : Nat} (hk : 4010 ≤ k) (h : OKP p) : code_Valid.f k p = some true := by
  obtain ⟨v, e, hv⟩ := validp_tells p k hk
  rw [e, hv.2 h]
theorem validp_no {p : List Ins} {k : Nat} (hk : 4010 ≤ k) (h : ¬ OKP p) : code_Valid.f k p = some false := by
  obtain ⟨v, e, hv⟩ := validp_tells p k hk
  cases v with
  | false => exact e
  | true => exact absurd (hv.1 rfl) h
theorem okp_nice {p : List Ins} (h : OKP p) : ∀ x ∈ p, Nice x := by
  intro x hx
  obtain ⟨i, hi, rfl⟩ := List.getElem_of_mem hx
  have := h.2.2 i hi
  rw [rd_at p i hi] at this
  exact nice_of_right this (by omega) (by have := h.1; omega) (by omega)
theorem item_length {x : Ins} {i n : Int} (h : Right x i n) (hi : 0 ≤ i) (hn : n ≤ 4000) (hin : i ≤ n) : (item x).length ≤ 20000 + x.f4.size := by
  unfold Right Reg at h
  unfold item
  rw [List.length_cons, List.length_append, num_length]
  rcases h with ⟨h0, ⟨h1, h2⟩, h3, h4, h5, h6⟩ | ⟨h0, ⟨h1, h2⟩, ⟨h3, h4⟩, h5, h6⟩ | ⟨h0, ⟨h1, h2⟩, ⟨h3, h4⟩, ⟨h5, h6⟩, h7⟩ | ⟨h0, ⟨h1, h2⟩, h3, h4, h5, h6⟩
  · unfold body
    rw [if_pos h0, List.length_cons, List.length_append, num_length, bl_len]
    omega
  · rw [body_regs (by omega) (by omega) (by omega), List.length_cons, List.length_append, num_length, num_length]
    omega
  · unfold body
    rw [if_neg (by omega), if_pos h0]
    simp only [List.length_cons, List.length_append, num_length]
    omega
  · by_cases hneg : x.f2 < 0
    · rw [body_neg h0 hneg]
      simp only [List.length_cons, List.length_append, num_length, List.length_nil]
      omega
    · rw [body_pos h0 hneg]
      simp only [List.length_cons, List.length_append, num_length, List.length_nil]
      omega
theorem item_length_okp {p : List Ins} (h : OKP p) : ∀ x ∈ p, (item x).length ≤ 20000 + x.f4.size := by
  intro x hx
  obtain ⟨i, hi, rfl⟩ := List.getElem_of_mem hx
  have := h.2.2 i hi
  rw [rd_at p i hi] at this
  exact item_length this (by omega) (by have := h.1; omega) (by omega)
def codeL (p : List Ins) : List UInt8 := lst (p.map item)
theorem codeL_cons (x : Ins) (p : List Ins) : codeL (x :: p) = 49 :: (item x ++ codeL p) := rfl
theorem codeL_length : ∀ (p : List Ins), (∀ x ∈ p, (item x).length ≤ 20000 + x.f4.size) → (codeL p).length ≤ 20001 * p.length + sizes p + 1
  | [], _ => by simp [codeL, lst]
  | x :: p, h => by
    have h1 := h x (by simp)
    have h2 := codeL_length p (fun y hy => h y (List.mem_cons_of_mem _ hy))
    rw [codeL_cons, List.length_cons, List.length_append, List.length_cons]
    simp only [sizes, List.map_cons, List.sum_cons] at *
    omega
theorem code_l (p : List Ins) (hn : ∀ x ∈ p, Nice x) : ∀ (d k i : Nat) (bs0 : List UInt8), p.length - i = d → i ≤ p.length → d < k → bs0.length + (codeL (p.drop i)).length ≤ 140737488355000 →
    code_Code.l k p (i : Int) bs0 = some (bs0 ++ codeL (p.drop i))
  | d, k, i, bs0, hd, hi, hk, hz => by
    obtain ⟨k, rfl⟩ : ∃ m, k = m + 1 := ⟨k - 1, by omega⟩
    by_cases hlt : i < p.length
    · have hdrop : p.drop i = p[i] :: p.drop (i + 1) := List.drop_eq_getElem_cons hlt
      have hx := hn p[i] (List.getElem_mem hlt)
      have hop : 0 ≤ p[i].f0 ∧ p[i].f0 ≤ 1000000 := by
        obtain ⟨_, _, h⟩ := hx
        omega
      rw [hdrop, codeL_cons, List.length_cons, List.length_append] at hz
      have hitem : (item p[i]).length = 1 + (num p[i].f0.toNat).length + (body p[i]).length := by unfold item; simp; omega
      rw [code_Code.l, if_pos (by omega), rd_at p i hlt, (num_small hop.1 hop.2).1, Option.bind_some, put_tells hx, Option.bind_some]
      rw [bs_size, bs_size, if_pos (by omega), show (i : Int) + 1 = ((i + 1 : Nat) : Int) from rfl]
      rw [code_l p hn (p.length - (i + 1)) k (i + 1) _ rfl (by omega) (by omega) (by
        rw [List.length_append, List.length_append, List.length_append]
        show bs0.length + (2 + (bl (bs _)).length) + (bl (bs _)).length + _ ≤ _
        rw [bl_bs, bl_bs]
        omega)]
      rw [hdrop, codeL_cons]
      congr 1
      show bs0 ++ ([49, 49] ++ bl (bs _)) ++ bl (bs _) ++ _ = _
      rw [bl_bs, bl_bs]
      unfold item
      simp
    · have : p.drop i = [] := List.drop_eq_nil_of_le (by omega)
      rw [this] at hz ⊢
      rw [code_Code.l, if_neg (by omega), if_pos (by simpa [codeL, lst] using (by simp [codeL, lst] at hz; omega))]
      rfl
  termination_by d => d
theorem codeL_small {p : List Ins} (h : OKP p) : (codeL p).length ≤ 100000000 := by
  have h1 := codeL_length p (item_length_okp h)
  have h2 := h.1
  have h3 : sizes p ≤ 2000000 := h.2.1
  have : 20001 * p.length ≤ 20001 * 4000 := Nat.mul_le_mul_left _ h2
  omega
theorem code_yes {p : List Ins} {k : Nat} (hk : 4010 ≤ k) (h : OKP p) : code_Code.f k p = if 2000000 < (codeL p).length then some (bs [], 3) else some (bs (codeL p), 0) := by
  have hs := codeL_small h
  unfold code_Code.f
  rw [validp_yes hk h, Option.bind_some, if_pos rfl]
  have := code_l p (okp_nice h) p.length k 0 [] rfl (by omega) (by have := h.1; omega) (by simp; omega)
  rw [show ((0 : Nat) : Int) = 0 from rfl] at this
  rw [this, Option.bind_some]
  simp only [List.drop_zero, List.nil_append]
  rfl
theorem isT_codeL {p : List Ins} (h : ∀ x ∈ p, Nice x) : IsT (codeL p) := by
  refine isT_lst _ fun s hs => ?_
  obtain ⟨x, hx, rfl⟩ := List.mem_map.1 hs
  exact isT_item (h x hx)
theorem mem_sizes : ∀ (p : List Ins) (x : Ins), x ∈ p → x.f4.size ≤ sizes p
  | y :: p, x, h => by
    simp only [sizes, List.map_cons, List.sum_cons]
    rcases List.mem_cons.1 h with rfl | h
    · omega
    · have := mem_sizes p x h
      simp only [sizes] at this
      omega
theorem okp_small {p : List Ins} (h : OKP p) : ∀ x ∈ p, x.f4.size ≤ 2000000 := by
  intro x hx
  have h1 : sizes p ≤ 2000000 := h.2.1
  have := mem_sizes p x hx
  omega
end Go.Proofs.YtpnmmpfidiegcaaGreatDoor.Plain
end
section
namespace Go.Proofs.YtpnmmpfidiegcaaGreatDoor.Plain
open Go.Proofs.YtpnmmpfidiegcaaGreatDoor.C
open Go.RowKit Go.Proofs.YtpnmmpfidiegcaaGreatDoorW.PrintWords Go.Proofs.YtpnmmpfidiegcaaGreatDoorW.PrintLast Go.Proofs.YtpnmmpfidiegcaaGreatDoorW.PrintMore
set_option linter.unusedVariables false
set_option linter.unusedSimpArgs false
theorem bl_nums (l : List Int) : bl (strOfNums l) = l.map fun n => UInt8.ofNat n.toNat := strOfNums_data l
theorem nums_bytes (s : ByteArray) : (bytesOf s).map (fun n => UInt8.ofNat n.toNat) = bl s := by
  unfold bytesOf
  rw [List.map_map]
  conv => rhs; rw [← List.map_id (bl s)]
  refine List.map_congr_left fun c _ => ?_
  show UInt8.ofNat ((c.toNat : Int)).toNat = c
  rw [Int.toNat_natCast, UInt8.ofNat_toNat]
end Go.Proofs.YtpnmmpfidiegcaaGreatDoor.Plain
end
section
namespace Go.Proofs.YtpnmmpfidiegcaaGreatDoor.C
open Go.RowKit Go.Proofs.YtpnmmpfidiegcaaGreatDoorW.PrintWords Go.Proofs.YtpnmmpfidiegcaaGreatDoorW.PrintLast Go.Proofs.YtpnmmpfidiegcaaGreatDoorW.PrintMore
open Go.Proofs.YtpnmmpfidiegcaaGreatDoor.Plain (Tr bs bl bl_nums eq_bs)
set_option linter.unusedVariables false
set_option linter.unusedSimpArgs false
def encI : Tr → List Int
  | .nil => [48]
  | .cons a b => 49 :: (encI a ++ encI b)
theorem encI_map : ∀ t : Tr, (encI t).map (fun n => UInt8.ofNat n.toNat) = t.enc
  | .nil => rfl
  | .cons a b => by simp [encI, Tr.enc, encI_map a, encI_map b]
theorem encI_str (t : Tr) : strOfNums (encI t) = bs t.enc := eq_bs (by rw [bl_nums, encI_map])
theorem infoU8y : (Tryz.prog.info? 5).map (fun i => (i.zero, i.size, i.bytes)) = some (some (.int .u8 0), 1, 1) := by kernel_rfl
def sumT (ts : List Tr) : Nat := (ts.map Tr.size).sum
theorem sumT_snoc (ts : List Tr) (x : Tr) : sumT (ts ++ [x]) = sumT ts + x.size := by unfold sumT; simp
theorem sumT_len : ∀ qs : List Tr, qs.length ≤ sumT qs
  | [] => Nat.zero_le _
  | q :: qs => by
    have := sumT_len qs
    have h1 := Tr.size_pos q
    show qs.length + 1 ≤ (q.size + (qs.map Tr.size).sum)
    unfold sumT at this
    omega
set_option maxHeartbeats 4000000 in
set_option maxRecDepth 100000 in
theorem text_calls (t : Tr) (v : Value) (w : World) (h : Nd w t v) (hz : t.size ≤ 100000000) :
    Calls Tryz.prog 29 #[v] w fun e w' => e = .returned (.string (bs t.enc)) ∧ Below w.heap.size w w' := by
  obtain ⟨p, rfl⟩ := Nd.ptr h
  have HT := Aside0.mk h
  clear h
  have HW : Aside0 ((w.alloc (.cells #[.pointer p] 23 (0, 0))).ownsRow w.heap.size 23 1 (.slice (some ⟨w.heap.size, 0, none⟩) 1 1) 1 [.pointer p]) :=
    ⟨⟨rfl, .inr ⟨w.heap.size, 1, #[.pointer p], rfl, Nat.le_refl _, blk_new _ _, Nat.le_refl _, by decide, rfl, rfl⟩⟩⟩
  go_enter Tryz.func29, Tryz.ntmps29
  go_wp2
  go_loopg [3, 4] (t.size + 1) (fun kq v3 v4 wr => ∃ (ts : List Tr) (xs : List Value) (os : List Int), Aside0 (kq = sumT ts + 1 ∧ os.length + sumT ts = t.size) ∧ Aside0 (os ++ ts.reverse.flatMap encI = encI t) ∧ Aside0 (Nds wr ts xs) ∧ Aside0 (wr.ownsRow w.heap.size 23 1 v4 xs.length xs) ∧ Aside0 (wr.ownsRow w.heap.size 5 1 v3 os.length (nums .u8 os)) ∧ Aside0 (Below w.heap.size w wr))
  case atStart =>
    refine ⟨[t], [.pointer p], [], ⟨by simp [sumT], by simp [sumT]⟩, ⟨by simp⟩, ⟨⟨_, _, rfl, Nd.keep (NK.alloc _ _) _ _ HT.out, rfl⟩⟩, HW, ⟨own_nil _ _ _ _⟩, ⟨below_alloc (Below.refl _ _) _⟩⟩
  case round =>
    clear HW
    obtain ⟨ts, xs, os, HI, HE, HN, HO, HU, HB⟩ := hrel
    have hl := Nds.length HN.out
    rcases List.eq_nil_or_concat ts with rfl | ⟨qs, x, hq⟩
    · obtain rfl : xs = [] := HN.out
      obtain ⟨A, c, rfl⟩ := own_slice HO.out
      have he := HE.out
      rw [List.reverse_nil, List.flatMap_nil, List.append_nil] at he
      subst he
      have hcv := own_string (P := Tryz.prog) (n := (encI t).length) (xs := encI t) Tryz.underlying68 Tryz.underlying5 Tryz.underlying9 HU.out
      rw [encI_str] at hcv
      clear hl HI HE HN HO HU
      go_wp2
      go_ret
      exact ⟨rfl, HB.out⟩
    · rw [List.concat_eq_append] at hq
      subst hq
      obtain ⟨ys, vx, rfl, hys, hvx⟩ := Nds.last HN.out
      obtain ⟨nn, hnn⟩ : ∃ nn, nn = ys.length := ⟨_, rfl⟩
      have hlen : (ys ++ [vx]).length = nn + 1 := by simp [hnn]
      rw [hlen] at HO
      obtain ⟨g, cap, rfl, hgb, hgl⟩ := HO.out.form (by omega)
      have ca := HO.out.cells (g := g) rfl nn vx (by simp [hnn])
      rw [add_plain] at ca
      have hcap : nn + 1 ≤ cap := own_le HO.out
      have hcap1 : (nn : Int) ≤ (cap : Int) := by omega
      have hql : qs.length = nn := by have := Nds.length hys; omega
      have hsum := HI.out
      rw [sumT_snoc] at hsum
      have hnl : nn ≤ 100000000 := by
        have h1 := sumT_len qs
        omega
      have HNN := Aside0.mk hnn
      have HY := Aside0.mk hys
      have HO2 : Aside0 (wr.ownsRow w.heap.size 23 1 (.slice (some ⟨g, 0, none⟩) nn cap) nn ys) := ⟨by
        have := own_take (m := nn) HO.out (by omega)
        rw [Nat.mul_one, List.take_append_of_le_length (by omega), List.take_of_length_le (by omega)] at this
        exact this⟩
      obtain ⟨cs, hgc⟩ : ∃ cs, wr.heap[g]? = some (.cells cs 23 (0, 0)) := own_typed HO.out g rfl
      have HGN : Aside0 (some g ≠ (u3 : Value).ownBlock) := ⟨own_ne HU.out hgc (by decide)⟩
      have HGC := Aside0.mk hgc
      have t1 : decide ((0 : Int) < (nn : Int) + 1) = true := decide_eq_true (by omega)
      have he := HE.out
      rw [List.reverse_append, List.reverse_singleton, List.singleton_append, List.flatMap_cons] at he
      have HE2 := Aside0.mk he
      have HS := Aside0.mk hsum
      obtain ⟨k2, rfl⟩ : ∃ k2, gk = k2 + 1 := ⟨gk - 1, by omega⟩
      clear hl hlen hys hql hsum hgc he HE HN HO HI hnn
      cases x with
      | nil =>
        obtain rfl : vx = .pointer none := hvx
        go_wp2_with (at_builtin; refine print_append w.heap.size rfl (.tmp 24) (.tmp 25) 68 5 (.int .u8 0) 1 rfl Tryz.underlying68 infoU8y rfl (by omega) _ (nums .u8 os) (.int .u8 48) rfl rfl rfl (by rw [show (nums .u8 os).length = os.length from List.length_map ..]; exact HU.out) HB.out HB.out.size ?c1 ?_)
        case c1 => rw [show (nums .u8 os).length = os.length from List.length_map ..]; have := HS.out; omega
        intro v1 w1 ho hb hgr _
        have HO3 := Aside0.mk ho
        have HB1 := Aside0.mk hb
        have HK := Aside0.mk (NK.grown hgr HU.out (by decide))
        have HO4 := Aside0.mk (own_other HO2.out hgr (.inr HGN.out))
        clear ho hb hgr
        go_wp2
        go_roundg k2
        case measure => omega
        case rel =>
          refine ⟨qs, ys, os ++ [48], ⟨?_⟩, ⟨?_⟩, ⟨Nds.keep HK.out _ _ HY.out⟩, ⟨by rw [← HNN.out]; exact HO4.out⟩, ⟨?_⟩, HB1⟩
          · have := HS.out; simp only [Tr.size] at this; rw [List.length_append, List.length_singleton]; omega
          · have := HE2.out; rw [List.append_assoc]; exact this
          · have := HO3.out
            rw [show (nums .u8 os).length = os.length from List.length_map ..] at this
            rw [List.length_append, nums_append]
            exact this
      | cons a b =>
        obtain ⟨gx, va, vb, rfl, hgx, ha, hb⟩ := hvx
        obtain ⟨pa, rfl⟩ := Nd.ptr ha
        obtain ⟨pb, rfl⟩ := Nd.ptr hb
        have HA := Aside0.mk ha
        have HBB := Aside0.mk hb
        have HGX := Aside0.mk hgx
        clear ha hb hgx
        go_wp2_with (at_builtin; refine print_append w.heap.size rfl (.tmp 27) (.tmp 28) 68 5 (.int .u8 0) 1 rfl Tryz.underlying68 infoU8y rfl (by omega) _ (nums .u8 os) (.int .u8 49) rfl rfl rfl (by rw [show (nums .u8 os).length = os.length from List.length_map ..]; exact HU.out) HB.out HB.out.size ?c1 ?_)
        case c1 => rw [show (nums .u8 os).length = os.length from List.length_map ..]; have := HS.out; omega
        intro v1 w2 ho hb hgr _
        have HO3 := Aside0.mk ho
        have HB3 := Aside0.mk hb
        have HK := Aside0.mk (NK.grown hgr HU.out (by decide))
        have HO4 := Aside0.mk (own_other HO2.out hgr (.inr HGN.out))
        have x0 := (blk_cell (HK.out _ _ HGX.out) 0).trans rfl
        have x1 := (blk_cell (HK.out _ _ HGX.out) 1).trans rfl
        have HGN2 : Aside0 (some g ≠ v1.ownBlock) := ⟨by
          obtain ⟨cs, hc⟩ := own_typed HO4.out g rfl
          exact own_ne ho hc (by decide)⟩
        clear ho hb hgr ca
        go_wp2
        obtain ⟨i0, hi, hz0, hz1, hz2⟩ := info_parts infoNp
        have HM1 := Aside0.mk (show nn + 2 ≤ maxLen by unfold maxLen; omega)
        have HM2 := Aside0.mk (show (nn + 2) * 8 ≤ 140737488355328 by omega)
        go_region_held3 (fun w' => w'.cell? ⟨gx, 0, none⟩ = some (.pointer pa) ∧ w'.cell? ⟨gx, 1, none⟩ = some (.pointer pb))
          (first
            | go_keep
            | (have HK3 := Aside0.mk (NK.trans HK.out (NK.trans (NK.alloc w2 (.cells #[.pointer pb, .pointer pa] 23)) (NK.trans (NK.drew _) (NK.grown hgrow1 ((HO4.out.alloc _).drew) (by decide))))); exact ⟨(blk_cell (HK3.out _ _ HGX.out) 0).trans rfl, (blk_cell (HK3.out _ _ HGX.out) 1).trans rfl⟩))
          (first
            | ((refine step_append_lies _ (by rfl) _ _ _ (by rfl) w.heap.size 23 i0 _ 1 8 Tryz.underlying43 hi hz0 hz1 hz2 rfl (by omega) _ nn ys (by rfl) ((HO4.out.alloc _).drew)
                    ⟨w2.heap.size, 0, none⟩ 2 2 [.pointer pb, .pointer pa] (by rfl) (by rfl) (World.news_of_block (cs := #[.pointer pb, .pointer pa]) (t := 23) (fr := (0, 0)) (heap_alloc_new w2 _)) (by simp [Value.oneCell'])
                    (by omega) HM1.out HM2.out (by have := HB3.out.size; simp; omega) (w2.heap.size + 1) (by simp) ?_; intro gg cap3 w3 hown1 hgrow1 hat1 hlt1)))
        have HO5 := Aside0.mk hown1
        have HB4 : Aside0 (Below w.heap.size w w3) := ⟨((HB3.out.alloc HB3.out.size _).drew).grown hgrow1 (by have := HB3.out.size; simp; omega) (own_base HO4.out)⟩
        have HK3 := Aside0.mk (NK.trans HK.out (NK.trans (NK.alloc w2 (.cells #[.pointer pb, .pointer pa] 23)) (NK.trans (NK.drew _) (NK.grown hgrow1 ((HO4.out.alloc _).drew) (by decide)))))
        have HU3 : Aside0 (w3.ownsRow w.heap.size 5 1 v1 (os ++ [49]).length (nums .u8 (os ++ [49]))) := ⟨by
          have h1 := HO3.out
          rw [show (nums .u8 os).length = os.length from List.length_map ..] at h1
          rw [List.length_append, nums_append]
          exact own_other ((h1.alloc _).drew) hgrow1 (.inr (fun e => HGN2.out e.symm))⟩
        clear hown1 hgrow1 hat1 hlt1
        go_wp2
        go_roundg k2
        case measure => omega
        case rel =>
          refine ⟨qs ++ [b] ++ [a], ys ++ [.pointer pb, .pointer pa], os ++ [49], ⟨?_⟩, ⟨?_⟩, ⟨?_⟩, ⟨?_⟩, HU3, HB4⟩
          · have := HS.out; simp only [Tr.size] at this; rw [List.length_append, List.length_singleton, sumT_snoc, sumT_snoc]; omega
          · have := HE2.out
            simp only [encI, List.reverse_append, List.reverse_singleton, List.singleton_append, List.flatMap_cons, List.append_assoc, List.cons_append, List.nil_append] at this ⊢
            exact this
          · rw [List.append_assoc]
            exact Nds.append (us := [b, a]) ⟨_, _, rfl, Nd.keep HK3.out _ _ HBB.out, _, _, rfl, Nd.keep HK3.out _ _ HA.out, rfl⟩ (Nds.keep HK3.out _ _ HY.out)
          · have e : (ys ++ [Value.pointer pb, .pointer pa]).length = nn + 2 := by simp [HNN.out]
            rw [e]
            exact HO5.out
end Go.Proofs.YtpnmmpfidiegcaaGreatDoor.C
end
section
namespace Go.Proofs.YtpnmmpfidiegcaaGreatDoor.Plain
open Go.Proofs.YtpnmmpfidiegcaaGreatDoor.C
set_option linter.unusedVariables false
def numT : Nat → Tr
  | 0 => .nil
  | n + 1 => .cons .nil (numT n)
theorem numT_enc : ∀ n, (numT n).enc = num n
  | 0 => rfl
  | n + 1 => by simp [numT, num, Tr.enc, numT_enc n]
def lstT : List Tr → Tr
  | [] => .nil
  | t :: l => .cons t (lstT l)
theorem lstT_enc : ∀ l : List Tr, (lstT l).enc = lst (l.map Tr.enc)
  | [] => rfl
  | t :: l => by simp [lstT, lst, Tr.enc, lstT_enc l]
def bodyT (x : Ins) : Tr :=
  if x.f0 = 0 then .cons (numT x.f1.toNat) (dec (bl x.f4))
  else if x.f0 = 2 then .cons (numT x.f1.toNat) (.cons (numT x.f2.toNat) (numT x.f3.toNat))
  else if x.f0 = 5 then (if x.f2 < 0 then .cons (numT x.f1.toNat) (.cons (.cons .nil .nil) (numT (-x.f2).toNat)) else .cons (numT x.f1.toNat) (.cons .nil (numT x.f2.toNat)))
  else .cons (numT x.f1.toNat) (numT x.f2.toNat)
def itemT (x : Ins) : Tr := .cons (numT x.f0.toNat) (bodyT x)
def codeT (p : List Ins) : Tr := lstT (p.map itemT)
theorem itemT_enc {x : Ins} (h : Nice x) : (itemT x).enc = item x := by
  have hb : (bodyT x).enc = body x := by
    unfold bodyT body
    obtain ⟨_, _, h | h | h | h⟩ := h
    · simp only [if_pos h.1, Tr.enc, numT_enc, enc_dec h.2.2.2.1]
    · simp only [h.1, Int.reduceEq, if_false, if_true, Tr.enc, numT_enc]
    · simp only [h.1, Int.reduceEq, if_false, if_true]
      split <;> simp [Tr.enc, numT_enc]
    · simp only [if_neg (show ¬ x.f0 = 0 by omega), if_neg (show ¬ x.f0 = 2 by omega), if_neg (show ¬ x.f0 = 5 by omega), Tr.enc, numT_enc]
  rw [itemT, item, Tr.enc, numT_enc, hb]
theorem codeT_enc {p : List Ins} (h : ∀ x ∈ p, Nice x) : (codeT p).enc = codeL p := by
  rw [codeT, lstT_enc, codeL, List.map_map]
  congr 1
  exact List.map_congr_left fun x hx => itemT_enc (h x hx)
theorem codeT_cons (x : Ins) (p : List Ins) : codeT (x :: p) = .cons (itemT x) (codeT p) := rfl
abbrev Rg := Nat → Tr
def upd (r : Rg) (a : Nat) (v : Tr) : Rg := fun i => if i = a then v else r i
def init (x : Tr) : Rg := fun i => if i = 0 then x else .nil
def exec (x : Ins) (r : Rg) : Option (Int × Rg) :=
  if x.f0 = 0 then some (1, upd r x.f1.toNat (dec (bl x.f4)))
  else if x.f0 = 1 then some (1, upd r x.f1.toNat (r x.f2.toNat))
  else if x.f0 = 2 then (if 2000000 < 1 + (r x.f2.toNat).size + (r x.f3.toNat).size then none else some (1, upd r x.f1.toNat (.cons (r x.f2.toNat) (r x.f3.toNat))))
  else if x.f0 = 3 then some (1, upd r x.f1.toNat (r x.f2.toNat).hd)
  else if x.f0 = 4 then some (1, upd r x.f1.toNat (r x.f2.toNat).tl)
  else some (if (r x.f1.toNat).isNil = true then 1 else x.f2, r)
def after (p : List Ins) : Nat → Int → Rg → Int × Rg × Nat × Bool
  | 0, at_, r => (at_, r, 0, true)
  | k + 1, at_, r => if at_ = (p.length : Int) then (at_, r, 0, true) else match exec (p.getD at_.toNat ⟨0, 0, 0, 0, ⟨#[]⟩⟩) r with
    | none => (at_, r, 0, false)
    | some q => let s := after p k (at_ + q.1) q.2; (s.1, s.2.1, s.2.2.1 + 1, s.2.2.2)
def runM (p : List Ins) (x : Tr) (fuel : Nat) : Tr × Nat × Int :=
  let s := after p fuel 0 (init x)
  if s.2.2.2 = true then (if s.1 = (p.length : Int) then (s.2.1 0, s.2.2.1, 0) else (.nil, 0, 7)) else (.nil, 0, 3)
def Goes (p : List Ins) (m : Nat) (a : Int) (r : Rg) (a' : Int) (r' : Rg) : Prop :=
  ∀ k, after p (m + k) a r = ((after p k a' r').1, (after p k a' r').2.1, (after p k a' r').2.2.1 + m, (after p k a' r').2.2.2)
theorem Goes.refl (p : List Ins) (a : Int) (r : Rg) : Goes p 0 a r a r := fun k => by rw [Nat.zero_add]; rfl
theorem Goes.trans {p : List Ins} {m n : Nat} {a b c : Int} {r s t : Rg} (h : Goes p m a r b s) (k : Goes p n b s c t) : Goes p (m + n) a r c t := fun j => by
  rw [Nat.add_assoc, h, k]
  simp only [Nat.add_assoc, Nat.add_comm n m]
theorem Goes.step {p : List Ins} {a : Int} {r : Rg} {d : Int} {s : Rg} (hlt : a ≠ (p.length : Int)) (h : exec (p.getD a.toNat ⟨0, 0, 0, 0, ⟨#[]⟩⟩) r = some (d, s)) : Goes p 1 a r (a + d) s := fun k => by
  rw [Nat.add_comm 1 k, after, if_neg hlt, h]
theorem Goes.then_ {p : List Ins} {m : Nat} {a b : Int} {r s t : Rg} {d : Int} (h : Goes p m a r b s) (hlt : b ≠ (p.length : Int)) (he : exec (p.getD b.toNat ⟨0, 0, 0, 0, ⟨#[]⟩⟩) s = some (d, t)) : Goes p (m + 1) a r (b + d) t := h.trans (Goes.step hlt he)
theorem after_behind (pre p : List Ins) (hp : ∀ j, j < p.length → Right (p.getD j ⟨0, 0, 0, 0, ⟨#[]⟩⟩) j p.length) : ∀ (k : Nat) (a : Int) (r : Rg), 0 ≤ a → a ≤ (p.length : Int) →
    after (pre ++ p) k ((pre.length : Int) + a) r = ((pre.length : Int) + (after p k a r).1, (after p k a r).2) ∧ 0 ≤ (after p k a r).1 ∧ (after p k a r).1 ≤ (p.length : Int) := by
  intro k
  induction k with
  | zero => intro a r h0 h1; exact ⟨rfl, h0, h1⟩
  | succ k ih =>
    intro a r h0 h1
    by_cases he : a = (p.length : Int)
    · subst he
      rw [after, if_pos (by rw [List.length_append]; omega), after, if_pos rfl]
      exact ⟨rfl, h0, h1⟩
    · obtain ⟨j, rfl⟩ := Int.eq_ofNat_of_zero_le h0
      have hj : j < p.length := by omega
      have hget : (pre ++ p).getD ((pre.length : Int) + (j : Int)).toNat ⟨0, 0, 0, 0, ⟨#[]⟩⟩ = p.getD j ⟨0, 0, 0, 0, ⟨#[]⟩⟩ := by
        rw [show ((pre.length : Int) + (j : Int)).toNat = pre.length + j from by omega, List.getD_eq_getElem?_getD, List.getElem?_append_right (by omega), Nat.add_sub_cancel_left, ← List.getD_eq_getElem?_getD]
      have hr := hp j hj
      have hw : ∀ q, exec (p.getD j ⟨0, 0, 0, 0, ⟨#[]⟩⟩) r = some q → 0 ≤ (j : Int) + q.1 ∧ (j : Int) + q.1 ≤ (p.length : Int) := by
        intro q hq
        unfold exec at hq
        generalize p.getD j ⟨0, 0, 0, 0, ⟨#[]⟩⟩ = x at hr hq
        unfold Right at hr
        split at hq
        · cases hq; constructor <;> dsimp only <;> omega
        split at hq
        · cases hq; constructor <;> dsimp only <;> omega
        split at hq
        · split at hq
          · cases hq
          · cases hq; constructor <;> dsimp only <;> omega
        split at hq
        · cases hq; constructor <;> dsimp only <;> omega
        split at hq
        · cases hq; constructor <;> dsimp only <;> omega
        · have : -(j : Int) ≤ x.f2 ∧ x.f2 ≤ (p.length : Int) - j := by omega
          cases hq
          constructor <;> dsimp only <;> split <;> omega
      rw [after, if_neg (by rw [List.length_append]; omega), hget, after, if_neg he, Int.toNat_natCast]
      cases hx : exec (p.getD j ⟨0, 0, 0, 0, ⟨#[]⟩⟩) r with
      | none => exact ⟨rfl, by simp only; omega, by simp only; omega⟩
      | some q =>
        obtain ⟨w0, w1⟩ := hw q hx
        obtain ⟨e, i0, i1⟩ := ih ((j : Int) + q.1) q.2 w0 w1
        simp only
        rw [show (pre.length : Int) + (j : Int) + q.1 = (pre.length : Int) + ((j : Int) + q.1) from by omega, e]
        exact ⟨rfl, i0, i1⟩
theorem run_behind {pre p : List Ins} (hp : ∀ j, j < p.length → Right (p.getD j ⟨0, 0, 0, 0, ⟨#[]⟩⟩) j p.length) {m : Nat} {x y : Tr} (h : Goes (pre ++ p) m 0 (init x) (pre.length : Int) (init y)) (k : Nat) :
    runM (pre ++ p) x (m + k) = ((runM p y k).1, if (runM p y k).2.2 = 0 then (runM p y k).2.1 + m else 0, (runM p y k).2.2) := by
  obtain ⟨e, i0, i1⟩ := after_behind pre p hp k 0 (init y) (Int.le_refl _) (by omega)
  rw [Int.add_zero] at e
  unfold runM
  simp only
  rw [h k, e]
  simp only [List.length_append]
  cases hb : (after p k 0 (init y)).2.2.2 with
  | false => simp
  | true =>
    by_cases hq : (after p k 0 (init y)).1 = (p.length : Int)
    · rw [if_pos rfl, if_pos (by omega), if_pos rfl, if_pos hq]
      simp
    · rw [if_pos rfl, if_neg (by omega), if_pos rfl, if_neg hq]
      simp
end Go.Proofs.YtpnmmpfidiegcaaGreatDoor.Plain
end
section
namespace Go.Proofs.YtpnmmpfidiegcaaGreatDoor.C
open Go.RowKit Go.Proofs.YtpnmmpfidiegcaaGreatDoorW.PrintWords Go.Proofs.YtpnmmpfidiegcaaGreatDoorW.PrintLast Go.Proofs.YtpnmmpfidiegcaaGreatDoorW.PrintMore
open Go.Proofs.YtpnmmpfidiegcaaGreatDoor.Plain (Tr bs bl bl_bs numT lstT bodyT itemT codeT OKP Right Reg dec IsT ValidT codeT_cons)
set_option linter.unusedVariables false
set_option linter.unusedSimpArgs false
set_option maxHeartbeats 2000000 in
set_option maxRecDepth 100000 in
theorem equal_yes (x : Tr) (va vb : Value) (w : World) (ha : Nd w x va) (hb : Nd w x vb) (hz : x.size ≤ 100000000) :
    Calls Tryz.prog 18 #[va, vb] w fun e w' => e = .returned (.bool true) ∧ Below w.heap.size w w' := by
  have ht := fun (v : Value) (w : World) (h : Nd w x v) => text_calls x v w h hz
  generalize bs x.enc = S at ht
  have HTX := Aside0.mk ht
  have HA := Aside0.mk ha
  have HB := Aside0.mk hb
  have HBW := Aside0.mk (Below.refl w.heap.size w)
  clear ht ha hb hz
  go_enter Tryz.func18, Tryz.ntmps18
  go_wp2_with (first
    | (go_at_call 21; first | ((with_reducible refine (Size_calls x va _ HA.out).mono ?_); rintro e w1 ⟨rfl, rfl⟩) | ((with_reducible refine (Size_calls x vb _ HB.out).mono ?_); rintro e w1 ⟨rfl, rfl⟩))
    | (go_at_call 29; first | ((with_reducible refine (HTX.out va _ HA.out).mono ?_); rintro e w2 ⟨rfl, hb2⟩; have HB := Aside0.mk (Nd.keep (NK.below hb2) _ _ HB.out); have HA := Aside0.mk (Nd.keep (NK.below hb2) _ _ HA.out); have HBW := Aside0.mk (below_then HBW.out HBW.out.size hb2); clear hb2) | ((with_reducible refine (HTX.out vb _ HB.out).mono ?_); rintro e w2 ⟨rfl, hb2⟩; have HBW := Aside0.mk (below_then HBW.out HBW.out.size hb2); clear hb2)))
  go_ret
  exact ⟨rfl, HBW.out⟩
theorem numT_size' : ∀ n, (numT n).size = 2 * n + 1
  | 0 => rfl
  | n + 1 => by
    show 1 + 1 + (numT n).size = _
    rw [numT_size' n]; omega
set_option maxHeartbeats 2000000 in
set_option maxRecDepth 100000 in
theorem number_calls (n : Int) (w : World) (hn : n ≤ 1000000) :
    Calls Tryz.prog 27 #[.int .i64 n] w fun e w' => ∃ v, e = .returned v ∧ Nd w' (numT n.toNat) v ∧ Below w.heap.size w w' := by
  go_enter Tryz.func27, Tryz.ntmps27
  go_wp2
  go_loopg [3, 4] (n.toNat + 1) (fun kq v3 v4 wr => ∃ i : Nat, v4 = .int .i64 i ∧ Aside0 (i ≤ n.toNat ∧ kq = n.toNat - i + 1) ∧ Aside0 (Nd wr (numT i) v3) ∧ Aside0 (Below w.heap.size w wr))
  case atStart => exact ⟨0, rfl, ⟨Nat.zero_le _, by omega⟩, ⟨rfl⟩, ⟨Below.refl _ _⟩⟩
  case round =>
    obtain ⟨i, rfl, HI, HN, HB⟩ := hrel
    by_cases h : (i : Int) < n
    · obtain ⟨k2, rfl⟩ : ∃ k2, gk = k2 + 1 := ⟨gk - 1, by have := HI.out; omega⟩
      have HS : Aside0 ((numT i).size ≤ 1000000000000) := ⟨by rw [numT_size']; omega⟩
      go_wp2_with (go_at_call 12; refine (Cons_calls .nil (numT i) (.pointer none) u3 _ rfl HN.out (by decide) HS.out).mono ?_; rintro e w1 ⟨v, rfl, hv, hb⟩; have HV := Aside0.mk hv; have HB1 := Aside0.mk (below_then HB.out HB.out.size hb); clear hv hb)
      go_roundg k2
      case measure => omega
      case rel => exact ⟨i + 1, by go_num, ⟨by omega, by have := HI.out; omega⟩, HV, HB1⟩
    · obtain rfl : i = n.toNat := by have := HI.out; omega
      go_wp2
      go_ret
      exact ⟨_, rfl, HN.out, HB.out⟩
end Go.Proofs.YtpnmmpfidiegcaaGreatDoor.C
end
