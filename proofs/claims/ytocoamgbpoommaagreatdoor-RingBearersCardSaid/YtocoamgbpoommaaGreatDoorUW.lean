/- Texts of this claim, together: what the functions return, and what they say in plain words. -/
import Derived.Test.YtocoamgbpoommaaGreatDoorUL
import Derived.Test.YtocoamgbpoommaaGreatDoorUN
import Derived.Test.YtocoamgbpoommaaGreatDoorUV
import Derived.Test.YtocoamgbpoommaaGreatDoorUB
import Derived.Test.YtocoamgbpoommaaGreatDoorUT
import Derived.Test.YtocoamgbpoommaaGreatDoorUP
import Derived.Test.YtocoamgbpoommaaGreatDoorUJ
section
namespace Go.Proofs.YtocoamgbpoommaaGreatDoor.Plain
open Go.Proofs.YtocoamgbpoommaaGreatDoor.C
open Go.RowKit Go.Proofs.YtocoamgbpoommaaGreatDoorW.PrintWords Go.Proofs.YtocoamgbpoommaaGreatDoorW.PrintLast Go.Proofs.YtocoamgbpoommaaGreatDoorW.PrintMore
set_option linter.unusedVariables false
set_option linter.unusedSimpArgs false
def VI (p : List Ins) : Prop := ∀ j (h : j < p.length), Right p[j] j p.length
theorem rd_ins (p : List Ins) (j : Nat) (h : j < p.length) : rd_T72 p (j : Int) = p[j] := rd_at p j h
theorem okp_iff {p : List Ins} : OKP p ↔ p.length ≤ 4000 ∧ sizes p ≤ 2000000 ∧ VI p := by
  unfold OKP VI
  exact and_congr_right fun _ => and_congr_right fun _ => ⟨fun h j hj => by rw [← rd_ins p j hj]; exact h j hj, fun h j hj => by rw [rd_ins p j hj]; exact h j hj⟩
theorem right_wider {x : Ins} {i m n : Int} (h : Right x i m) (hmn : m ≤ n) : Right x i n := by
  unfold Right at *
  rcases h with h | h | h | h
  · exact .inl h
  · exact .inr (.inl h)
  · exact .inr (.inr (.inl h))
  · exact .inr (.inr (.inr ⟨h.1, h.2.1, h.2.2.1, by omega, h.2.2.2.2⟩))
theorem right_on {x : Ins} {i n : Int} (m : Int) (hm : 0 ≤ m) (h : Right x i n) : Right x (m + i) (m + n) := by
  unfold Right at *
  rcases h with h | h | h | h
  · exact .inl h
  · exact .inr (.inl h)
  · exact .inr (.inr (.inl h))
  · exact .inr (.inr (.inr ⟨h.1, h.2.1, by omega, by omega, h.2.2.2.2⟩))
theorem vi_append {p q : List Ins} (hp : VI p) (hq : VI q) : VI (p ++ q) := by
  intro j hj
  rw [List.length_append] at hj
  by_cases h : j < p.length
  · rw [List.getElem_append_left h, List.length_append]
    exact right_wider (hp j h) (by omega)
  · rw [List.getElem_append_right (by omega), List.length_append]
    have := right_on (p.length : Int) (by omega) (hq (j - p.length) (by omega))
    rw [show (p.length : Int) + ((j - p.length : Nat) : Int) = (j : Int) from by omega] at this
    simpa using this
def rightB (x : Ins) (i n : Int) : Bool :=
  decide (0 ≤ x.f1 ∧ x.f1 < 32) && (
  (x.f0 == 0 && x.f2 == 0 && x.f3 == 0 && decide (x.f4.size ≤ 2000000) && endL (bl x.f4) 1 0 == some (bl x.f4).length) ||
  ((x.f0 == 1 || x.f0 == 3 || x.f0 == 4) && decide (0 ≤ x.f2 ∧ x.f2 < 32) && x.f3 == 0 && (bl x.f4).isEmpty) ||
  (x.f0 == 2 && decide (0 ≤ x.f2 ∧ x.f2 < 32) && decide (0 ≤ x.f3 ∧ x.f3 < 32) && (bl x.f4).isEmpty) ||
  (x.f0 == 5 && decide (-i ≤ x.f2) && decide (x.f2 ≤ n - i) && x.f3 == 0 && (bl x.f4).isEmpty))
theorem right_of_B {x : Ins} {i n : Int} (h : rightB x i n = true) : Right x i n := by
  unfold rightB at h
  simp only [Bool.and_eq_true, Bool.or_eq_true, decide_eq_true_eq, beq_iff_eq, List.isEmpty_iff] at h
  obtain ⟨h1, h⟩ := h
  unfold Right Reg ValidT
  rcases h with ((h | h) | h) | h
  · exact .inl ⟨h.1.1.1.1, h1, h.1.1.1.2, h.1.1.2, h.1.2, isT_iff.2 h.2⟩
  · exact .inr (.inl ⟨by have := h.1.1.1; omega, h1, h.1.1.2, h.1.2, h.2⟩)
  · exact .inr (.inr (.inl ⟨h.1.1.1, h1, h.1.1.2, h.1.2, h.2⟩))
  · exact .inr (.inr (.inr ⟨h.1.1.1.1, h1, h.1.1.1.2, h.1.1.2, h.1.2, h.2⟩))
def viB (p : List Ins) (n : Int) : Nat → List Ins → Bool
  | _, [] => true
  | i, x :: l => rightB x i n && viB p n (i + 1) l
theorem vi_of_B : ∀ (l : List Ins) (p : List Ins) (n : Int) (i : Nat), viB p n i l = true → ∀ j (h : j < l.length), Right l[j] ((i + j : Nat) : Int) n
  | x :: l, p, n, i, h, 0, _ => by
    unfold viB at h
    rw [Bool.and_eq_true] at h
    exact right_of_B h.1
  | x :: l, p, n, i, h, j + 1, hj => by
    unfold viB at h
    rw [Bool.and_eq_true] at h
    have := vi_of_B l p n (i + 1) h.2 j (by simpa using hj)
    rw [show i + 1 + j = i + (j + 1) from by omega] at this
    exact this
theorem vi_ringHead : VI ringHead := fun j hj => by
  have := vi_of_B ringHead ringHead ringHead.length 0 (by decide +kernel) j hj
  rwa [Nat.zero_add] at this
def specHead (y : ByteArray) : List Ins := [⟨0, 1, 0, 0, y⟩, ⟨2, 0, 1, 0, ⟨#[]⟩⟩, ⟨0, 1, 0, 0, ⟨#[48]⟩⟩]
theorem vi_specHead {y : ByteArray} (h : ValidT y) : VI (specHead y) := by
  intro j hj
  match j, hj with
  | 0, _ => exact .inl ⟨rfl, ⟨show (0 : Int) ≤ 1 by decide, show (1 : Int) < 32 by decide⟩, rfl, rfl, h⟩
  | 1, _ => exact .inr (.inr (.inl ⟨rfl, ⟨show (0 : Int) ≤ 0 by decide, show (0 : Int) < 32 by decide⟩, ⟨show (0 : Int) ≤ 1 by decide, show (1 : Int) < 32 by decide⟩, ⟨show (0 : Int) ≤ 0 by decide, show (0 : Int) < 32 by decide⟩, rfl⟩))
  | 2, _ => exact .inl ⟨rfl, ⟨show (0 : Int) ≤ 1 by decide, show (1 : Int) < 32 by decide⟩, rfl, rfl, ⟨show (⟨#[48]⟩ : ByteArray).size ≤ 2000000 by decide, isT_nil⟩⟩
theorem vi_fits {p : List Ins} (h : VI p) : Fits p := by
  intro x hx
  obtain ⟨j, hj, rfl⟩ := List.getElem_of_mem hx
  rcases h j hj with h | h | h | h
  · have := h.2.2.2.2.1; omega
  · have h1 := h.2.2.2.2; rw [← bl_len, h1]; simp
  · have h1 := h.2.2.2.2; rw [← bl_len, h1]; simp
  · have h1 := h.2.2.2.2.2; rw [← bl_len, h1]; simp
def lsum : List (List Ins) → Nat
  | [] => 0
  | e :: l => 1 + (codeL e).length + lsum l
def tabL (rs : List (List Ins)) : List UInt8 := lst (rs.map codeL)
theorem tabL_length : ∀ l, (tabL l).length = lsum l + 1
  | [] => rfl
  | e :: l => by
    have := tabL_length l
    unfold tabL at *
    simp only [List.map_cons, lst, List.length_cons, List.length_append, lsum, this]
    omega
def GoodL (l : List (List Ins)) : Prop := (∀ e ∈ l, OKP e) ∧ lsum l < 2000000
theorem rd_prg (l : List (List Ins)) (i : Nat) (h : i < l.length) : rd_L3 l (i : Int) = l[i] := by unfold rd_L3; simp [h]
open Classical in
theorem ringList_l (l : List (List Ins)) (hl : l.length ≤ 1000) : ∀ (d k i : Nat) (xs : List Int), l.length - i = d → i ≤ l.length → d + 4020 < k → xs.length < 2000000 →
    ((∀ e ∈ l.drop i, OKP e) ∧ xs.length + lsum (l.drop i) < 2000000 → ∃ r, ring_list.l0 k xs l (l.length : Int) (i : Int) = some (r, 0) ∧ bl r = xs.map (fun n => UInt8.ofNat n.toNat) ++ tabL (l.drop i)) ∧
    (¬ ((∀ e ∈ l.drop i, OKP e) ∧ xs.length + lsum (l.drop i) < 2000000) → ring_list.l0 k xs l (l.length : Int) (i : Int) = some (⟨#[]⟩, 3))
  | d, k, i, xs, hd, hi, hk, hx => by
    obtain ⟨k, rfl⟩ : ∃ m, k = m + 1 := ⟨k - 1, by omega⟩
    by_cases hlt : i < l.length
    · have hdrop : l.drop i = l[i] :: l.drop (i + 1) := List.drop_eq_getElem_cons hlt
      have hstep : ring_list.l0 (k + 1) xs l (l.length : Int) (i : Int) = (code_Valid.f k l[i]).bind fun t5 => (if t5 = true then ((code_Code.f k l[i]).bind fun bt6 => (if bt6.2 = 0 then ((some (xs ++ [49] : List Int)).bind fun y8 => (if y8.length + bt6.1.size < 140737488355328 then ((some (y8 ++ bytesOf bt6.1 : List Int)).bind fun y11 => (if (y11.length : Int) ≥ 2000000 then (some ((⟨#[]⟩ : ByteArray), 3)) else (ring_list.l0 k y11 l (l.length : Int) (wrap64 ((i : Int) + 1))))) else (none))) else (some ((⟨#[]⟩ : ByteArray), bt6.2)))) else (some ((⟨#[]⟩ : ByteArray), 3))) := by
        rw [ring_list.l0, if_pos (by omega), if_pos (by omega), if_pos (by omega), rd_prg l i hlt]
        simp only [if_pos (show xs.length < 140737488355328 by omega)]
      by_cases hok : OKP l[i]
      · have hsm := codeL_small hok
        rw [hstep, validp_yes (by omega) hok, Option.bind_some, if_pos rfl, code_yes (by omega) hok, hdrop]
        by_cases hz : 2000000 < (codeL l[i]).length
        · rw [if_pos hz, Option.bind_some, if_neg (by decide)]
          refine ⟨fun h => ?_, fun _ => rfl⟩
          have := h.2
          simp only [lsum] at this
          omega
        · rw [if_neg hz, Option.bind_some, if_pos rfl, Option.bind_some, List.length_append, List.length_singleton, bs_size, if_pos (by omega), Option.bind_some, List.length_append, List.length_append, List.length_singleton, bytesOf_length, bs_size]
          by_cases hy : ((xs.length + 1 + (codeL l[i]).length : Nat) : Int) ≥ 2000000
          · rw [if_pos hy]
            refine ⟨fun h => ?_, fun _ => rfl⟩
            have := h.2
            simp only [lsum] at this
            omega
          · rw [if_neg hy, wrap_small (by omega) (by omega), show (i : Int) + 1 = ((i + 1 : Nat) : Int) from rfl]
            have hn : (xs ++ [49] ++ bytesOf (bs (codeL l[i]))).length = xs.length + 1 + (codeL l[i]).length := by rw [List.length_append, List.length_append, List.length_singleton, bytesOf_length, bs_size]
            obtain ⟨h1, h2⟩ := ringList_l l hl (l.length - (i + 1)) k (i + 1) (xs ++ [49] ++ bytesOf (bs (codeL l[i]))) rfl (by omega) (by omega) (by rw [hn]; omega)
            rw [hn] at h1 h2
            constructor
            · rintro ⟨g1, g2⟩
              simp only [lsum] at g2
              obtain ⟨r, e, hr⟩ := h1 ⟨fun e he => g1 e (List.mem_cons_of_mem _ he), by omega⟩
              refine ⟨r, e, ?_⟩
              have e49 : ([49] : List Int).map (fun n : Int => UInt8.ofNat n.toNat) = [49] := rfl
              rw [hr, List.map_append, List.map_append, nums_bytes, e49, bl_bs]
              show _ = xs.map (fun n => UInt8.ofNat n.toNat) ++ (49 :: (codeL l[i] ++ tabL (l.drop (i + 1))))
              simp
            · intro hno
              refine h2 fun g => hno ⟨fun e he => ?_, ?_⟩
              · rcases List.mem_cons.1 he with rfl | he
                · exact hok
                · exact g.1 e he
              · have := g.2
                simp only [lsum]
                omega
      · rw [hstep, validp_no (by omega) hok, Option.bind_some, if_neg (by decide), hdrop]
        exact ⟨fun h => absurd (h.1 _ List.mem_cons_self) hok, fun _ => rfl⟩
    · rw [ring_list.l0, if_neg (by omega), if_pos (by omega), List.drop_eq_nil_of_le (by omega)]
      refine ⟨fun _ => ⟨_, rfl, ?_⟩, fun h => absurd ⟨fun e he => (by cases he), by simp only [lsum]; omega⟩ h⟩
      rw [bl_nums, List.map_append]
      rfl
  termination_by d => d
theorem ringList_yes {l : List (List Ins)} (hl : l.length ≤ 1000) (h : GoodL l) (k : Nat) (hk : 6000 ≤ k) : ring_list.f k l = some (bs (tabL l), 0) := by
  unfold ring_list.f
  obtain ⟨r, e, hr⟩ := (ringList_l l hl l.length k 0 [] rfl (by omega) (by omega) (by simp)).1 (by simpa [GoodL] using h)
  rw [show ((0 : Nat) : Int) = 0 from rfl] at e
  rw [e, eq_bs hr]
  rfl
end Go.Proofs.YtocoamgbpoommaaGreatDoor.Plain
end
section
namespace Go.Proofs.YtocoamgbpoommaaGreatDoor.Plain
open Go.Proofs.YtocoamgbpoommaaGreatDoor.C
open Go.RowKit Go.Proofs.YtocoamgbpoommaaGreatDoorW.PrintWords Go.Proofs.YtocoamgbpoommaaGreatDoorW.PrintLast Go.Proofs.YtocoamgbpoommaaGreatDoorW.PrintMore
set_option linter.unusedVariables false
set_option linter.unusedSimpArgs false
def beforeW : List (List UInt8) := [[104, 101, 97, 100, 32, 50, 32, 48], [116, 97, 105, 108, 32, 51, 32, 48], [115, 101, 116, 32, 48, 32, 48], [109, 111, 118, 101, 32, 52, 32, 50], [115, 101, 116, 32, 55, 32, 49, 48, 48], [106, 117, 109, 112, 32, 55, 32, 52], [104, 101, 97, 100, 32, 54, 32, 52], [99, 111, 110, 115, 32, 53, 32, 54, 32, 53], [116, 97, 105, 108, 32, 52, 32, 52], [106, 117, 109, 112, 32, 52, 32, 45, 51], [99, 111, 110, 115, 32, 56, 32, 55, 32, 50], [99, 111, 110, 115, 32, 56, 32, 49, 32, 56], [115, 101, 116, 32, 57, 32, 49, 48, 49, 49, 48, 48, 48], [115, 101, 116, 32, 49, 48, 32, 49, 49, 48, 49, 48, 48, 49, 48, 49, 49, 48, 48, 48], [106, 117, 109, 112, 32, 55, 32, 55], [104, 101, 97, 100, 32, 54, 32, 53], [99, 111, 110, 115, 32, 54, 32, 57, 32, 54], [99, 111, 110, 115, 32, 54, 32, 49, 48, 32, 54], [99, 111, 110, 115, 32, 54, 32, 56, 32, 54], [99, 111, 110, 115, 32, 48, 32, 54, 32, 48], [116, 97, 105, 108, 32, 53, 32, 53], [106, 117, 109, 112, 32, 53, 32, 45, 54], [99, 111, 110, 115, 32, 48, 32, 48, 32, 51], [115, 101, 116, 32, 50, 32, 48], [115, 101, 116, 32, 51, 32, 48], [115, 101, 116, 32, 54, 32, 48], [115, 101, 116, 32, 55, 32, 48], [115, 101, 116, 32, 56, 32, 48], [115, 101, 116, 32, 57, 32, 48], [115, 101, 116, 32, 49, 48, 32, 48]]
theorem each_one {s : ByteArray} {l : List ByteArray} {p : List Ins} {i : Ins} {r : Option (Option (List Ins))} (h : code_instr.f s = some (i, true)) (hp : p.length < 1000) (k : eachInstr l (p ++ [i]) = r) : eachInstr (s :: l) p = r := by
  rw [eachInstr, h, Option.bind_some, if_pos rfl, if_pos (by omega), k]
set_option maxRecDepth 100000 in
theorem before_each : eachInstr (beforeW.map bs) [] = some (some ringHead) := by
  refine each_one (i := ⟨3, 2, 0, 0, ⟨#[]⟩⟩) (by kernel_rfl) (by decide) ?_
  refine each_one (i := ⟨4, 3, 0, 0, ⟨#[]⟩⟩) (by kernel_rfl) (by decide) ?_
  refine each_one (i := ⟨0, 0, 0, 0, ⟨#[48]⟩⟩) (by kernel_rfl) (by decide) ?_
  refine each_one (i := ⟨1, 4, 2, 0, ⟨#[]⟩⟩) (by kernel_rfl) (by decide) ?_
  refine each_one (i := ⟨0, 7, 0, 0, ⟨#[49, 48, 48]⟩⟩) (by kernel_rfl) (by decide) ?_
  refine each_one (i := ⟨5, 7, 4, 0, ⟨#[]⟩⟩) (by kernel_rfl) (by decide) ?_
  refine each_one (i := ⟨3, 6, 4, 0, ⟨#[]⟩⟩) (by kernel_rfl) (by decide) ?_
  refine each_one (i := ⟨2, 5, 6, 5, ⟨#[]⟩⟩) (by kernel_rfl) (by decide) ?_
  refine each_one (i := ⟨4, 4, 4, 0, ⟨#[]⟩⟩) (by kernel_rfl) (by decide) ?_
  refine each_one (i := ⟨5, 4, -3, 0, ⟨#[]⟩⟩) (by kernel_rfl) (by decide) ?_
  refine each_one (i := ⟨2, 8, 7, 2, ⟨#[]⟩⟩) (by kernel_rfl) (by decide) ?_
  refine each_one (i := ⟨2, 8, 1, 8, ⟨#[]⟩⟩) (by kernel_rfl) (by decide) ?_
  refine each_one (i := ⟨0, 9, 0, 0, ⟨#[49, 48, 49, 49, 48, 48, 48]⟩⟩) (by kernel_rfl) (by decide) ?_
  refine each_one (i := ⟨0, 10, 0, 0, ⟨#[49, 49, 48, 49, 48, 48, 49, 48, 49, 49, 48, 48, 48]⟩⟩) (by kernel_rfl) (by decide) ?_
  refine each_one (i := ⟨5, 7, 7, 0, ⟨#[]⟩⟩) (by kernel_rfl) (by decide) ?_
  refine each_one (i := ⟨3, 6, 5, 0, ⟨#[]⟩⟩) (by kernel_rfl) (by decide) ?_
  refine each_one (i := ⟨2, 6, 9, 6, ⟨#[]⟩⟩) (by kernel_rfl) (by decide) ?_
  refine each_one (i := ⟨2, 6, 10, 6, ⟨#[]⟩⟩) (by kernel_rfl) (by decide) ?_
  refine each_one (i := ⟨2, 6, 8, 6, ⟨#[]⟩⟩) (by kernel_rfl) (by decide) ?_
  refine each_one (i := ⟨2, 0, 6, 0, ⟨#[]⟩⟩) (by kernel_rfl) (by decide) ?_
  refine each_one (i := ⟨4, 5, 5, 0, ⟨#[]⟩⟩) (by kernel_rfl) (by decide) ?_
  refine each_one (i := ⟨5, 5, -6, 0, ⟨#[]⟩⟩) (by kernel_rfl) (by decide) ?_
  refine each_one (i := ⟨2, 0, 0, 3, ⟨#[]⟩⟩) (by kernel_rfl) (by decide) ?_
  refine each_one (i := ⟨0, 2, 0, 0, ⟨#[48]⟩⟩) (by kernel_rfl) (by decide) ?_
  refine each_one (i := ⟨0, 3, 0, 0, ⟨#[48]⟩⟩) (by kernel_rfl) (by decide) ?_
  refine each_one (i := ⟨0, 6, 0, 0, ⟨#[48]⟩⟩) (by kernel_rfl) (by decide) ?_
  refine each_one (i := ⟨0, 7, 0, 0, ⟨#[48]⟩⟩) (by kernel_rfl) (by decide) ?_
  refine each_one (i := ⟨0, 8, 0, 0, ⟨#[48]⟩⟩) (by kernel_rfl) (by decide) ?_
  refine each_one (i := ⟨0, 9, 0, 0, ⟨#[48]⟩⟩) (by kernel_rfl) (by decide) ?_
  refine each_one (i := ⟨0, 10, 0, 0, ⟨#[48]⟩⟩) (by kernel_rfl) (by decide) ?_
  rfl
set_option maxRecDepth 100000 in
theorem before_split : ∃ l, strings_Split.f beforeB ⟨#[59, 32]⟩ = some l ∧ l = beforeW.map bs := by
  obtain ⟨l, h1, h2, _⟩ := split_tells beforeB ⟨#[59, 32]⟩ (by decide +kernel) (by decide)
  refine ⟨l, h1, ?_⟩
  have e : bl beforeB = joinS [59, 32] beforeW := by decide +kernel
  rw [e, show bl (⟨#[59, 32]⟩ : ByteArray) = [59, 32] from rfl, split_joinS 59 [32] beforeW (by decide) (by decide +kernel)] at h2
  rw [← h2, List.map_map]
  conv => lhs; rw [← List.map_id l]
  exact List.map_congr_left fun x _ => (bs_bl x).symm
set_option maxRecDepth 100000 in
theorem before_tells (k : Nat) (hk : 4010 ≤ k) : ring_before.f k = some (ringHead, 0) := by
  have hv : OKP ringHead := okp_iff.2 ⟨by decide, by decide +kernel, vi_ringHead⟩
  obtain ⟨l, hl, e⟩ := before_split
  unfold ring_before.f code_Parse.f
  rw [if_neg (by decide +kernel), if_neg (by decide +kernel), hl, Option.bind_some, e, before_each, Option.bind_some]
  simp only []
  rw [validp_yes hk hv]
  rfl
end Go.Proofs.YtocoamgbpoommaaGreatDoor.Plain
end
section
namespace Go.Proofs.YtocoamgbpoommaaGreatDoor.Plain
open Go.Proofs.YtocoamgbpoommaaGreatDoor.C
open Go.RowKit Go.Proofs.YtocoamgbpoommaaGreatDoorW.PrintWords Go.Proofs.YtocoamgbpoommaaGreatDoorW.PrintLast Go.Proofs.YtocoamgbpoommaaGreatDoorW.PrintMore
set_option linter.unusedVariables false
set_option linter.unusedSimpArgs false
theorem spec_tells {r : List Ins} {y : ByteArray} (hr : OKP r) (hy : ValidT y) (k : Nat) (hk : 4020 ≤ k) :
    (OKP (specHead y ++ r) → spec_Spec.f k r y = some (specHead y ++ r, 0)) ∧ (¬ OKP (specHead y ++ r) → spec_Spec.f k r y = some ([], 3)) := by
  obtain ⟨k, rfl⟩ : ∃ m, k = m + 1 := ⟨k - 1, by omega⟩
  have h4 := hr.1
  have e : spec_Spec.f (k + 1) r y = (code_Valid.f k (specHead y ++ r)).bind fun t9 => (if t9 = true then (some (specHead y ++ r, 0)) else (some (([] : List Ins), 3))) := by
    unfold spec_Spec.f
    rw [validp_yes (by omega) hr, Option.bind_some, if_pos rfl, valid_yes hy, Option.bind_some, show (!true) = false from rfl, spec_Spec.j0, if_neg (by decide), Option.bind_some]
    rw [if_pos (by simp only [List.length_cons, List.length_nil]; omega), Option.bind_some]
    rfl
  constructor
  · intro h; rw [e, validp_yes (by omega) h]; rfl
  · intro h; rw [e, validp_no (by omega) h]; rfl
theorem specAll_yes {y : ByteArray} (hy : ValidT y) (k : Nat) (hk : 4020 ≤ k) : ∀ l : List (List Ins), (∀ r ∈ l, OKP r ∧ OKP (specHead y ++ r)) → specAll k y l = some (0, l.map fun r => specHead y ++ r)
  | [], _ => rfl
  | r :: l, h => by
    obtain ⟨h1, h2⟩ := h r List.mem_cons_self
    rw [specAll, (spec_tells h1 hy k hk).1 h2, Option.bind_some, if_pos rfl, specAll_yes hy k hk l (fun x hx => h x (List.mem_cons_of_mem _ hx))]
    rfl
def madeL (rs : List (List Ins)) : List (List Ins) := rs.map fun r => specHead (bs (tabL rs)) ++ r
theorem validT_tab {rs : List (List Ins)} (h : GoodL rs) : ValidT (bs (tabL rs)) := by
  refine ⟨by rw [bs_size, tabL_length]; have := h.2; omega, ?_⟩
  rw [bl_bs]
  refine isT_lst _ fun s hs => ?_
  obtain ⟨e, he, rfl⟩ := List.mem_map.1 hs
  exact isT_codeL (okp_nice (h.1 e he))
def behind (l : List (List Ins)) : List (List Ins) := l.map fun p => ringHead ++ p
def Fine (l : List (List Ins)) : Prop := GoodL (behind l) ∧ GoodL (madeL (behind l))
theorem togMid_yes {rs : List (List Ins)} (hl : rs.length ≤ 1000) (h1 : GoodL rs) (h2 : GoodL (madeL rs)) (k : Nat) (hk : 6000 ≤ k) : togMid k rs = some (madeL rs, 0) := by
  unfold togMid
  rw [ringList_yes hl h1 k hk, Option.bind_some]
  simp only [if_true]
  rw [specAll_yes (validT_tab h1) k (by omega) rs (fun r hr => ⟨h1.1 r hr, h2.1 _ (List.mem_map.2 ⟨r, hr, rfl⟩)⟩), Option.bind_some]
  unfold togEnd
  have hm : (madeL rs).length ≤ 1000 := by unfold madeL; rw [List.length_map]; exact hl
  simp only [if_true]
  rw [show (rs.map fun r => specHead (bs (tabL rs)) ++ r) = madeL rs from rfl, ringList_yes hm h2 k hk]
  rfl
theorem validAll_yes (k : Nat) (hk : 4010 ≤ k) : ∀ l : List (List Ins), (∀ p ∈ l, OKP p) → validAll k l = some true
  | [], _ => rfl
  | p :: l, h => by rw [validAll, validp_yes hk (h p List.mem_cons_self), Option.bind_some, if_pos rfl, validAll_yes k hk l fun x hx => h x (List.mem_cons_of_mem _ hx)]
theorem together_yes {l : List (List Ins)} (h : ∀ p ∈ l, OKP p) (h1 : 1 ≤ l.length) (h2 : l.length ≤ 40) (hf : Fine l) (k : Nat) (hk : 6000 ≤ k) : ring_Together.f k l = some (madeL (behind l), 0) := by
  unfold ring_Together.f
  rw [validAll_yes k (by omega) l h, Option.bind_some, if_pos rfl, if_neg (by omega), if_neg (by omega), before_tells k (by omega), Option.bind_some, if_pos ⟨by decide, by decide, fun p hp => by have := (h p hp).1; omega⟩]
  exact togMid_yes (by unfold behind; rw [List.length_map]; omega) hf.1 hf.2 k hk
end Go.Proofs.YtocoamgbpoommaaGreatDoor.Plain
end
section
namespace Go.Proofs.YtocoamgbpoommaaGreatDoor.C
open Go.RowKit Go.Proofs.YtocoamgbpoommaaGreatDoorW.PrintWords Go.Proofs.YtocoamgbpoommaaGreatDoorW.PrintLast Go.Proofs.YtocoamgbpoommaaGreatDoorW.PrintMore
attribute [local go_sem] max2_int min2_int max_two min_two max_three min_three max_four min_four
set_option linter.unusedVariables false
set_option linter.unusedSimpArgs false
def narcissusref08_head.f (a0 : Int) (a1 : Int) : Option (Int × Int × Int × Int × ByteArray) := some (3, a0, a1, 0, (⟨#[]⟩ : ByteArray))
set_option maxHeartbeats 8000000 in
set_option maxRecDepth 100000 in
theorem narcissusref08_head.calls (a0 : Int) (a1 : Int) (r1 : Int) (r2 : Int) (r3 : Int) (r4 : Int) (r5 : ByteArray) (w : World) (h : narcissusref08_head.f a0 a1 = some (r1, r2, r3, r4, r5)) :
  Calls Tryz.prog 44 #[.int .i64 a0, .int .i64 a1] w fun e w' => e = .returned (.agg #[.int .i64 r1, .int .i64 r2, .int .i64 r3, .int .i64 r4, .string r5]) ∧ Below w.heap.size w w' := by
 have hu72 := Tryz.underlying72
 have HB := Aside0.mk (Below.refl w.heap.size w)
 have H : (some (3, a0, a1, 0, (⟨#[]⟩ : ByteArray))) = some (r1, r2, r3, r4, r5) := h
 clear h
 simp only [Option.some.injEq, Prod.mk.injEq] at H
 obtain ⟨rfl, rfl, rfl, rfl, rfl⟩ := H
 go_enter Tryz.func44, Tryz.ntmps44
 go_wp2_with (first | ((with_reducible refine gate_dst (N := 4) rfl ?_); refine box_event ?hg (N := 4) ?hd (cs := #[.int .i64 0, .int .i64 0, .int .i64 0, .int .i64 0, .string (⟨#[]⟩ : ByteArray)]) (t := 72) ?hr ?_; (case hd => rfl); (case hg => rfl); (case hr => first | (go_simp; done) | (go_simp; rfl)); intro gb1 hg w3 hbox hb; have n0_ := Aside0.mk (below_step (by repeat (first | (with_reducible first | exact HB.out | apply below_alloc | apply pw_below_drewN | apply below_drew1) | exact HB.out)) hb); have n1_ := Aside0.mk (hbox); have n2_ := Aside0.mk ((by rw [hg]; exact (below_size (by repeat (first | (with_reducible first | exact HB.out | apply below_alloc | apply pw_below_drewN | apply below_drew1) | exact HB.out))) : w.heap.size ≤ gb1)); have n3_ := Aside0.mk ((by rw [hg]; exact (below_size (by repeat (first | (with_reducible first | exact HB.out | apply below_alloc | apply pw_below_drewN | apply below_drew1) | exact HB.out))) : w.heap.size ≤ gb1)); clear HB; have HB := n0_; have BK1 := n1_; have GW1 := n2_; have GE1 := n3_; clear n0_ n1_ n2_ n3_; clear hb hbox hg; have hcz4_0 : w3.cell? ⟨gb1, 0, none⟩ = some (.int .i64 0) := (blk_cell BK1.out 0).trans rfl; have hcz4_1 : w3.cell? ⟨gb1, 1, none⟩ = some (.int .i64 0) := (blk_cell BK1.out 1).trans rfl; have hcz4_2 : w3.cell? ⟨gb1, 2, none⟩ = some (.int .i64 0) := (blk_cell BK1.out 2).trans rfl; have hcz4_3 : w3.cell? ⟨gb1, 3, none⟩ = some (.int .i64 0) := (blk_cell BK1.out 3).trans rfl; have hcz4_4 : w3.cell? ⟨gb1, 4, none⟩ = some (.string (⟨#[]⟩ : ByteArray)) := (blk_cell BK1.out 4).trans rfl; have hfz4_0 := blk_frozen BK1.out 0; have hfz4_1 := blk_frozen BK1.out 1; have hfz4_2 := blk_frozen BK1.out 2; have hfz4_3 := blk_frozen BK1.out 3; have hfz4_4 := blk_frozen BK1.out 4))
 refine bodyPost_ret (results_cell_row rfl _ _ gb1 72 #[.int .i64 3, .int .i64 a0, .int .i64 a1, .int .i64 0, .string (⟨#[]⟩ : ByteArray)] (0, 0) _ rfl (by (with_reducible repeat (first | refine blk_drewN ?_ _ | refine blk_drew ?_ | refine blk_alloc ?_ _)); refine blk_put (cs := #[.int .i64 3, .int .i64 a0, .int .i64 a1, .int .i64 0, .string (⟨#[]⟩ : ByteArray)]) ?_ 4 _ rfl; (with_reducible repeat (first | refine blk_drewN ?_ _ | refine blk_drew ?_ | refine blk_alloc ?_ _)); refine blk_put (cs := #[.int .i64 3, .int .i64 a0, .int .i64 a1, .int .i64 0, .string (⟨#[]⟩ : ByteArray)]) ?_ 3 _ rfl; (with_reducible repeat (first | refine blk_drewN ?_ _ | refine blk_drew ?_ | refine blk_alloc ?_ _)); refine blk_put (cs := #[.int .i64 3, .int .i64 a0, .int .i64 0, .int .i64 0, .string (⟨#[]⟩ : ByteArray)]) ?_ 2 _ rfl; (with_reducible repeat (first | refine blk_drewN ?_ _ | refine blk_drew ?_ | refine blk_alloc ?_ _)); refine blk_put (cs := #[.int .i64 3, .int .i64 0, .int .i64 0, .int .i64 0, .string (⟨#[]⟩ : ByteArray)]) ?_ 1 _ rfl; (with_reducible repeat (first | refine blk_drewN ?_ _ | refine blk_drew ?_ | refine blk_alloc ?_ _)); refine blk_put (cs := #[.int .i64 0, .int .i64 0, .int .i64 0, .int .i64 0, .string (⟨#[]⟩ : ByteArray)]) ?_ 0 _ rfl; (with_reducible repeat (first | refine blk_drewN ?_ _ | refine blk_drew ?_ | refine blk_alloc ?_ _)); exact BK1.out) Tryz.underlying72 rfl (by kernel_rfl)) rfl ?_
 exact ⟨by first | rfl | (simp [errW_none, errW_some] <;> rfl) | (simp [*, errW_none, errW_some] <;> rfl), by repeat (first | (with_reducible first | exact HB.out | apply below_alloc | apply pw_below_drewN | apply below_drew1 | refine below_set ?_ GE1.out) | exact HB.out)⟩
end Go.Proofs.YtocoamgbpoommaaGreatDoor.C
end
section
namespace Go.Proofs.YtocoamgbpoommaaGreatDoor.C
open Go.RowKit Go.Proofs.YtocoamgbpoommaaGreatDoorW.PrintWords Go.Proofs.YtocoamgbpoommaaGreatDoorW.PrintLast Go.Proofs.YtocoamgbpoommaaGreatDoorW.PrintMore
attribute [local go_sem] max2_int min2_int max_two min_two max_three min_three max_four min_four
set_option linter.unusedVariables false
set_option linter.unusedSimpArgs false
def narcissusref08_tail.f (a0 : Int) (a1 : Int) : Option (Int × Int × Int × Int × ByteArray) := some (4, a0, a1, 0, (⟨#[]⟩ : ByteArray))
set_option maxHeartbeats 8000000 in
set_option maxRecDepth 100000 in
theorem narcissusref08_tail.calls (a0 : Int) (a1 : Int) (r1 : Int) (r2 : Int) (r3 : Int) (r4 : Int) (r5 : ByteArray) (w : World) (h : narcissusref08_tail.f a0 a1 = some (r1, r2, r3, r4, r5)) :
  Calls Tryz.prog 45 #[.int .i64 a0, .int .i64 a1] w fun e w' => e = .returned (.agg #[.int .i64 r1, .int .i64 r2, .int .i64 r3, .int .i64 r4, .string r5]) ∧ Below w.heap.size w w' := by
 have hu72 := Tryz.underlying72
 have HB := Aside0.mk (Below.refl w.heap.size w)
 have H : (some (4, a0, a1, 0, (⟨#[]⟩ : ByteArray))) = some (r1, r2, r3, r4, r5) := h
 clear h
 simp only [Option.some.injEq, Prod.mk.injEq] at H
 obtain ⟨rfl, rfl, rfl, rfl, rfl⟩ := H
 go_enter Tryz.func45, Tryz.ntmps45
 go_wp2_with (first | ((with_reducible refine gate_dst (N := 4) rfl ?_); refine box_event ?hg (N := 4) ?hd (cs := #[.int .i64 0, .int .i64 0, .int .i64 0, .int .i64 0, .string (⟨#[]⟩ : ByteArray)]) (t := 72) ?hr ?_; (case hd => rfl); (case hg => rfl); (case hr => first | (go_simp; done) | (go_simp; rfl)); intro gb1 hg w3 hbox hb; have n0_ := Aside0.mk (below_step (by repeat (first | (with_reducible first | exact HB.out | apply below_alloc | apply pw_below_drewN | apply below_drew1) | exact HB.out)) hb); have n1_ := Aside0.mk (hbox); have n2_ := Aside0.mk ((by rw [hg]; exact (below_size (by repeat (first | (with_reducible first | exact HB.out | apply below_alloc | apply pw_below_drewN | apply below_drew1) | exact HB.out))) : w.heap.size ≤ gb1)); have n3_ := Aside0.mk ((by rw [hg]; exact (below_size (by repeat (first | (with_reducible first | exact HB.out | apply below_alloc | apply pw_below_drewN | apply below_drew1) | exact HB.out))) : w.heap.size ≤ gb1)); clear HB; have HB := n0_; have BK1 := n1_; have GW1 := n2_; have GE1 := n3_; clear n0_ n1_ n2_ n3_; clear hb hbox hg; have hcz4_0 : w3.cell? ⟨gb1, 0, none⟩ = some (.int .i64 0) := (blk_cell BK1.out 0).trans rfl; have hcz4_1 : w3.cell? ⟨gb1, 1, none⟩ = some (.int .i64 0) := (blk_cell BK1.out 1).trans rfl; have hcz4_2 : w3.cell? ⟨gb1, 2, none⟩ = some (.int .i64 0) := (blk_cell BK1.out 2).trans rfl; have hcz4_3 : w3.cell? ⟨gb1, 3, none⟩ = some (.int .i64 0) := (blk_cell BK1.out 3).trans rfl; have hcz4_4 : w3.cell? ⟨gb1, 4, none⟩ = some (.string (⟨#[]⟩ : ByteArray)) := (blk_cell BK1.out 4).trans rfl; have hfz4_0 := blk_frozen BK1.out 0; have hfz4_1 := blk_frozen BK1.out 1; have hfz4_2 := blk_frozen BK1.out 2; have hfz4_3 := blk_frozen BK1.out 3; have hfz4_4 := blk_frozen BK1.out 4))
 refine bodyPost_ret (results_cell_row rfl _ _ gb1 72 #[.int .i64 4, .int .i64 a0, .int .i64 a1, .int .i64 0, .string (⟨#[]⟩ : ByteArray)] (0, 0) _ rfl (by (with_reducible repeat (first | refine blk_drewN ?_ _ | refine blk_drew ?_ | refine blk_alloc ?_ _)); refine blk_put (cs := #[.int .i64 4, .int .i64 a0, .int .i64 a1, .int .i64 0, .string (⟨#[]⟩ : ByteArray)]) ?_ 4 _ rfl; (with_reducible repeat (first | refine blk_drewN ?_ _ | refine blk_drew ?_ | refine blk_alloc ?_ _)); refine blk_put (cs := #[.int .i64 4, .int .i64 a0, .int .i64 a1, .int .i64 0, .string (⟨#[]⟩ : ByteArray)]) ?_ 3 _ rfl; (with_reducible repeat (first | refine blk_drewN ?_ _ | refine blk_drew ?_ | refine blk_alloc ?_ _)); refine blk_put (cs := #[.int .i64 4, .int .i64 a0, .int .i64 0, .int .i64 0, .string (⟨#[]⟩ : ByteArray)]) ?_ 2 _ rfl; (with_reducible repeat (first | refine blk_drewN ?_ _ | refine blk_drew ?_ | refine blk_alloc ?_ _)); refine blk_put (cs := #[.int .i64 4, .int .i64 0, .int .i64 0, .int .i64 0, .string (⟨#[]⟩ : ByteArray)]) ?_ 1 _ rfl; (with_reducible repeat (first | refine blk_drewN ?_ _ | refine blk_drew ?_ | refine blk_alloc ?_ _)); refine blk_put (cs := #[.int .i64 0, .int .i64 0, .int .i64 0, .int .i64 0, .string (⟨#[]⟩ : ByteArray)]) ?_ 0 _ rfl; (with_reducible repeat (first | refine blk_drewN ?_ _ | refine blk_drew ?_ | refine blk_alloc ?_ _)); exact BK1.out) Tryz.underlying72 rfl (by kernel_rfl)) rfl ?_
 exact ⟨by first | rfl | (simp [errW_none, errW_some] <;> rfl) | (simp [*, errW_none, errW_some] <;> rfl), by repeat (first | (with_reducible first | exact HB.out | apply below_alloc | apply pw_below_drewN | apply below_drew1 | refine below_set ?_ GE1.out) | exact HB.out)⟩
end Go.Proofs.YtocoamgbpoommaaGreatDoor.C
end
section
namespace Go.Proofs.YtocoamgbpoommaaGreatDoor.C
open Go.RowKit Go.Proofs.YtocoamgbpoommaaGreatDoorW.PrintWords Go.Proofs.YtocoamgbpoommaaGreatDoorW.PrintLast Go.Proofs.YtocoamgbpoommaaGreatDoorW.PrintMore
attribute [local go_sem] max2_int min2_int max_two min_two max_three min_three max_four min_four
set_option linter.unusedVariables false
set_option linter.unusedSimpArgs false
theorem eqA72 (d : Nat) (w : World) (x0 y0 : Int) (x1 y1 : Int) (x2 y2 : Int) (x3 y3 : Int) (x4 y4 : ByteArray) :
    (Op.equalIn (d + 2) 72 (.agg #[.int .i64 x0, .int .i64 x1, .int .i64 x2, .int .i64 x3, .string x4]) (.agg #[.int .i64 y0, .int .i64 y1, .int .i64 y2, .int .i64 y3, .string y4])).run Tryz.prog w = .ok (x0 == y0 && (x1 == y1 && (x2 == y2 && (x3 == y3 && (x4.toList == y4.toList))))) w := by
  refine eqA_of Tryz.underlying72 (by kernel_rfl) ?_
  refine eqf_cons (by rfl) (by go_simp; rfl) (by go_simp; rfl) (by go_simp) ?_
  refine eqf_cons (by rfl) (by go_simp; rfl) (by go_simp; rfl) (by go_simp) ?_
  refine eqf_cons (by rfl) (by go_simp; rfl) (by go_simp; rfl) (by go_simp) ?_
  refine eqf_cons (by rfl) (by go_simp; rfl) (by go_simp; rfl) (by go_simp) ?_
  exact eqf_last (by rfl) (by go_simp; rfl) (by go_simp; rfl) (by go_simp)
end Go.Proofs.YtocoamgbpoommaaGreatDoor.C
end
section
namespace Go.Proofs.YtocoamgbpoommaaGreatDoor.C
open Go.RowKit Go.Proofs.YtocoamgbpoommaaGreatDoorW.PrintWords Go.Proofs.YtocoamgbpoommaaGreatDoorW.PrintLast Go.Proofs.YtocoamgbpoommaaGreatDoorW.PrintMore
attribute [local go_sem] max2_int min2_int max_two min_two max_three min_three max_four min_four
set_option linter.unusedVariables false
set_option linter.unusedSimpArgs false
attribute [local go_sem high] eqA72
def narcissusref02_Same.l0 : Nat → List (S72) → List (S72) → Int → Option (Bool)
 | 0, _, _, _ => none
 | k + 1, x0, x1, x5 => if x5 < (x0.length : Int) then (if 0 ≤ x5 then (if x5 < (x1.length : Int) then (if (!(((rd_T72 x0 x5).f0) == ((rd_T72 x1 x5).f0)) || (!(((rd_T72 x0 x5).f1) == ((rd_T72 x1 x5).f1)) || (!(((rd_T72 x0 x5).f2) == ((rd_T72 x1 x5).f2)) || (!(((rd_T72 x0 x5).f3) == ((rd_T72 x1 x5).f3)) || (!((((rd_T72 x0 x5).f4).toList) == (((rd_T72 x1 x5).f4).toList))))))) = true then (some false) else (narcissusref02_Same.l0 k x0 x1 (wrap64 (x5 + 1)))) else (none)) else (none)) else (some true)
def narcissusref02_Same.f (k : Nat) (l0 : List (S72)) (l1 : List (S72)) : Option (Bool) := if (l0.length : Int) = (l1.length : Int) then (narcissusref02_Same.l0 k l0 l1 0) else (some false)
set_option maxHeartbeats 8000000 in
set_option maxRecDepth 100000 in
theorem narcissusref02_Same.calls (k : Nat) (A0 : Option Addr) (c0 : Nat) (l0 : List (S72)) (A1 : Option Addr) (c1 : Nat) (l1 : List (S72)) (r : Bool) (w : World) (hr0 : Kd.C k72 w A0 l0.length l0) (hc0 : l0.length ≤ c0) (hr1 : Kd.C k72 w A1 l1.length l1) (hc1 : l1.length ≤ c1) (h : narcissusref02_Same.f k l0 l1 = some r) :
  Calls Tryz.prog 34 #[.slice A0 l0.length c0, .slice A1 l1.length c1] w fun e w' => e = .returned (.bool r) ∧ Drawn0 w w' := by
 have hu72 := Tryz.underlying72
 have HR0 := Aside0.mk hr0
 have HC0 := Aside0.mk hc0
 clear hr0 hc0
 have HR1 := Aside0.mk hr1
 have HC1 := Aside0.mk hc1
 clear hr1 hc1
 have H : (if (l0.length : Int) = (l1.length : Int) then (narcissusref02_Same.l0 k l0 l1 0) else (some false)) = some r := h
 clear h
 by_cases c3 : (l0.length : Int) = (l1.length : Int)
 ·rw [if_pos c3] at H
  have c3b0 : ((l0.length : Int) == (l1.length : Int)) = true := beq_iff_eq.mpr c3
  have c3b1 : ((l0.length : Int) != (l1.length : Int)) = false := bne_eq_false_iff_eq.mpr c3
  have c3b2 : (l0.length == l1.length) = true := by first | simpa using c3 | (simp at c3 ⊢; omega)
  clear c3
  have H' := Aside0.mk H
  clear H
  go_enter Tryz.func34, Tryz.ntmps34
  go_wp2
  repeat (go_quiet (fail); try go_wp2)
  go_loopg [5] k (fun kq v5 w' => ∃ (x5_1 : Int), v5 = .int .i64 x5_1 ∧ Aside0 (narcissusref02_Same.l0 kq l0 l1 x5_1 = some r) ∧ Aside0 (kq ≤ k) ∧ Drawn0 w w')
  case atStart => exact ⟨(0), (by first | rfl | (simp; done) | (simp [*]; done)), H', ⟨Nat.le_refl _⟩, by repeat (first | exact Drawn0.refl _ | apply Drawn0.step)⟩
  case round =>
   clear H'
   try clear c1
   try clear p2
   try clear c3
   try clear c3b0
   try clear c3b1
   try clear c3b2
   obtain ⟨x5_1, rfl, HA, HK1, ⟨m1, rfl⟩⟩ := hrel
   cases gk with
   | zero => exact absurd HA.out (by simp [narcissusref02_Same.l0])
   | succ k1 =>
    have H := HA.out
    clear HA
    simp only [narcissusref02_Same.l0] at H
    by_cases c4 : x5_1 < (l0.length : Int)
    ·rw [if_pos c4] at H
     have c4b0 : decide (x5_1 < (l0.length : Int)) = true := decide_eq_true c4
     clear c4
     by_cases c5 : 0 ≤ x5_1
     ·rw [if_pos c5] at H
      have c5b0 : decide (0 ≤ x5_1) = true := decide_eq_true c5
      clear c5
      by_cases c6 : x5_1 < (l1.length : Int)
      ·rw [if_pos c6] at H
       have c6b0 : decide (x5_1 < (l1.length : Int)) = true := decide_eq_true c6
       clear c6
       by_cases c7 : (!(((rd_T72 l0 x5_1).f0) == ((rd_T72 l1 x5_1).f0)) || (!(((rd_T72 l0 x5_1).f1) == ((rd_T72 l1 x5_1).f1)) || (!(((rd_T72 l0 x5_1).f2) == ((rd_T72 l1 x5_1).f2)) || (!(((rd_T72 l0 x5_1).f3) == ((rd_T72 l1 x5_1).f3)) || (!((((rd_T72 l0 x5_1).f4).toList) == (((rd_T72 l1 x5_1).f4).toList))))))) = true
       ·rw [if_pos c7] at H
        have c7b0 : (!(((rd_T72 l0 x5_1).f0) == ((rd_T72 l1 x5_1).f0)) || (!(((rd_T72 l0 x5_1).f1) == ((rd_T72 l1 x5_1).f1)) || (!(((rd_T72 l0 x5_1).f2) == ((rd_T72 l1 x5_1).f2)) || (!(((rd_T72 l0 x5_1).f3) == ((rd_T72 l1 x5_1).f3)) || (!((((rd_T72 l0 x5_1).f4).toList) == (((rd_T72 l1 x5_1).f4).toList))))))) = true := c7
        clear c7
        obtain rfl := Option.some.inj H
        have p1 : 0 ≤ (x5_1 : Int) := of_decide_eq_true (by first | (with_reducible assumption) | assumption)
        have q1 : x5_1 < (l0.length : Int) := of_decide_eq_true (by first | (with_reducible assumption) | assumption)
        obtain ⟨ad1, e1, hx1_0, hx1_1, hx1_2, hx1_3, hx1_4⟩ := at_T72 HR0.out x5_1 p1 q1
        cases e1
        replace p1 := eq_true p1
        replace q1 := eq_true q1
        have p2 : 0 ≤ (x5_1 : Int) := of_decide_eq_true (by first | (with_reducible assumption) | assumption)
        have q2 : x5_1 < (l1.length : Int) := of_decide_eq_true (by first | (with_reducible assumption) | assumption)
        obtain ⟨ad2, e2, hx2_0, hx2_1, hx2_2, hx2_3, hx2_4⟩ := at_T72 HR1.out x5_1 p2 q2
        cases e2
        replace p2 := eq_true p2
        replace q2 := eq_true q2
        go_wp2
        repeat (go_quiet (fail); try go_wp2)
        go_ret
        exact ⟨by first | rfl | (simp; done) | (simp [*]; done) | (simp [show ∀ l : List UInt8, (l != []) = !l.isEmpty from fun l => by cases l <;> rfl]; done), by repeat (first | exact Drawn0.refl _ | apply Drawn0.step)⟩
       ·rw [if_neg c7] at H
        have c7b0 : (!(((rd_T72 l0 x5_1).f0) == ((rd_T72 l1 x5_1).f0)) || (!(((rd_T72 l0 x5_1).f1) == ((rd_T72 l1 x5_1).f1)) || (!(((rd_T72 l0 x5_1).f2) == ((rd_T72 l1 x5_1).f2)) || (!(((rd_T72 l0 x5_1).f3) == ((rd_T72 l1 x5_1).f3)) || (!((((rd_T72 l0 x5_1).f4).toList) == (((rd_T72 l1 x5_1).f4).toList))))))) = false := by simpa using c7
        clear c7
        have H' := Aside0.mk H
        clear H
        have p1 : 0 ≤ (x5_1 : Int) := of_decide_eq_true (by first | (with_reducible assumption) | assumption)
        have q1 : x5_1 < (l0.length : Int) := of_decide_eq_true (by first | (with_reducible assumption) | assumption)
        obtain ⟨ad1, e1, hx1_0, hx1_1, hx1_2, hx1_3, hx1_4⟩ := at_T72 HR0.out x5_1 p1 q1
        cases e1
        replace p1 := eq_true p1
        replace q1 := eq_true q1
        have p2 : 0 ≤ (x5_1 : Int) := of_decide_eq_true (by first | (with_reducible assumption) | assumption)
        have q2 : x5_1 < (l1.length : Int) := of_decide_eq_true (by first | (with_reducible assumption) | assumption)
        obtain ⟨ad2, e2, hx2_0, hx2_1, hx2_2, hx2_3, hx2_4⟩ := at_T72 HR1.out x5_1 p2 q2
        cases e2
        replace p2 := eq_true p2
        replace q2 := eq_true q2
        go_wp2
        repeat (go_quiet (fail); try go_wp2)
        go_roundg k1
        case measure => have := HK1.out; omega
        case rel => exact ⟨(wrap64 (x5_1 + 1)), (by first | rfl | (simp; done) | (simp [*]; done)), H', ⟨by have := HK1.out; omega⟩, by repeat (first | exact Drawn0.refl _ | apply Drawn0.step)⟩
      ·rw [if_neg c6] at H
       exact absurd H (by simp)
     ·rw [if_neg c5] at H
      exact absurd H (by simp)
    ·rw [if_neg c4] at H
     have c4b0 : decide (x5_1 < (l0.length : Int)) = false := decide_eq_false c4
     clear c4
     obtain rfl := Option.some.inj H
     go_wp2
     repeat (go_quiet (fail); try go_wp2)
     go_ret
     exact ⟨by first | rfl | (simp; done) | (simp [*]; done) | (simp [show ∀ l : List UInt8, (l != []) = !l.isEmpty from fun l => by cases l <;> rfl]; done), by repeat (first | exact Drawn0.refl _ | apply Drawn0.step)⟩
 ·rw [if_neg c3] at H
  have c3b0 : ((l0.length : Int) == (l1.length : Int)) = false := beq_eq_false_iff_ne.mpr c3
  have c3b1 : ((l0.length : Int) != (l1.length : Int)) = true := bne_iff_ne.mpr c3
  have c3b2 : (l0.length == l1.length) = false := by first | simpa using c3 | (simp at c3 ⊢; omega)
  obtain rfl := Option.some.inj H
  go_enter Tryz.func34, Tryz.ntmps34
  go_wp2
  repeat (go_quiet (fail); try go_wp2)
  go_ret
  exact ⟨by first | rfl | (simp; done) | (simp [*]; done) | (simp [show ∀ l : List UInt8, (l != []) = !l.isEmpty from fun l => by cases l <;> rfl]; done), by repeat (first | exact Drawn0.refl _ | apply Drawn0.step)⟩
end Go.Proofs.YtocoamgbpoommaaGreatDoor.C
end
section
namespace Go.Proofs.YtocoamgbpoommaaGreatDoor.Plain
open Go.Proofs.YtocoamgbpoommaaGreatDoor.C
open Go.RowKit Go.Proofs.YtocoamgbpoommaaGreatDoorW.PrintWords Go.Proofs.YtocoamgbpoommaaGreatDoorW.PrintLast Go.Proofs.YtocoamgbpoommaaGreatDoorW.PrintMore
set_option linter.unusedVariables false
set_option linter.unusedSimpArgs false
theorem refTrees_tells {p : List Ins} (hp : p.length ≤ 4000) (hf : Fits p) (k : Nat) (hk : 4010 ≤ k) : narcissusref02_Trees.f k p = some ((sizes p : Nat) : Int) := by
  unfold narcissusref02_Trees.f
  have := trees_l p hp hf p.length k 0 0 rfl (Nat.zero_le _) (Nat.zero_le _) (by omega)
  rw [show ((0 : Nat) : Int) = 0 from rfl] at this
  rw [this, List.drop_zero, Nat.zero_add]
theorem refCoded_yes {p : List Ins} (h : OKP p) (k : Nat) (hk : 8100 ≤ k) : narcissusref07_Coded.f k p = some (bs (codeL p), decide ((codeL p).length ≤ 2000000)) := by
  have hs : sizes p ≤ 2000000 := h.2.1
  unfold narcissusref07_Coded.f narcissusref04_Fits.f
  rw [if_pos (by have := h.1; omega), refTrees_tells h.1 (okp_fits h) k (by omega), Option.bind_some, Option.bind_some, if_pos (by simpa using (by omega : ((sizes p : Nat) : Int) ≤ 2000000)), refCode_yes hk h, Option.bind_some, bs_size]
  congr 2
  exact decide_eq_decide.2 (by omega)
theorem refCoded_no {p : List Ins} (hv : VI p) (h : ¬ OKP p) (k : Nat) (hk : 8100 ≤ k) : narcissusref07_Coded.f k p = some (⟨#[]⟩, false) := by
  unfold narcissusref07_Coded.f narcissusref04_Fits.f
  by_cases h4 : p.length ≤ 4000
  · have hs : ¬ sizes p ≤ 2000000 := fun hs => h (okp_iff.2 ⟨h4, hs, hv⟩)
    rw [if_pos (by omega), refTrees_tells h4 (vi_fits hv) k (by omega), Option.bind_some, Option.bind_some, if_neg (by simpa using (by omega : ¬ ((sizes p : Nat) : Int) ≤ 2000000))]
  · rw [if_neg (by omega), Option.bind_some, if_neg (by decide)]
theorem refSpec_tells (r : List Ins) (y : ByteArray) (h : r.length ≤ 1000000) : narcissusref05_Spec.f r y = some (specHead y ++ r) := by
  unfold narcissusref05_Spec.f narcissusref05_head.f
  rw [Option.bind_some, if_pos (by simp only [List.length_cons, List.length_nil]; omega)]
  rfl
end Go.Proofs.YtocoamgbpoommaaGreatDoor.Plain
end
section
namespace Go.Proofs.YtocoamgbpoommaaGreatDoor.Plain
open Go.Proofs.YtocoamgbpoommaaGreatDoor.C
open Go.RowKit Go.Proofs.YtocoamgbpoommaaGreatDoorW.PrintWords Go.Proofs.YtocoamgbpoommaaGreatDoorW.PrintLast Go.Proofs.YtocoamgbpoommaaGreatDoorW.PrintMore
set_option linter.unusedVariables false
set_option linter.unusedSimpArgs false
theorem diff_tells (x y : Ins) : ((!(x.f0 == y.f0) || (!(x.f1 == y.f1) || (!(x.f2 == y.f2) || (!(x.f3 == y.f3) || (!(x.f4.toList == y.f4.toList)))))) = true) ↔ x ≠ y := by
  rw [toL, toL]
  constructor
  · intro h e
    subst e
    simp at h
  · intro h
    simp only [Bool.or_eq_true, Bool.not_eq_true', beq_eq_false_iff_ne]
    apply Classical.byContradiction
    intro hn
    simp only [not_or, Classical.not_not] at hn
    exact h (ins_eq hn.1 hn.2.1 hn.2.2.1 hn.2.2.2.1 hn.2.2.2.2)
theorem same_l (a b : List Ins) (hab : a.length = b.length) (ha : a.length ≤ 2932031007402) : ∀ (d k i : Nat), a.length - i = d → i ≤ a.length → d < k →
    ∃ v, narcissusref02_Same.l0 k a b (i : Int) = some v ∧ (v = true ↔ a.drop i = b.drop i)
  | d, k, i, hd, hi, hk => by
    obtain ⟨k, rfl⟩ : ∃ m, k = m + 1 := ⟨k - 1, by omega⟩
    by_cases hlt : i < a.length
    · have hltb : i < b.length := by omega
      have hda : a.drop i = a[i] :: a.drop (i + 1) := List.drop_eq_getElem_cons hlt
      have hdb : b.drop i = b[i] :: b.drop (i + 1) := List.drop_eq_getElem_cons hltb
      rw [narcissusref02_Same.l0, if_pos (by omega), if_pos (by omega), if_pos (by omega), rd_at a i hlt, rd_at b i hltb, hda, hdb]
      by_cases he : a[i] = b[i]
      · rw [if_neg (fun h => (diff_tells _ _).1 h he), wrap_small (by omega) (by omega), show (i : Int) + 1 = ((i + 1 : Nat) : Int) from rfl]
        obtain ⟨v, e, hv⟩ := same_l a b hab ha (a.length - (i + 1)) k (i + 1) rfl (by omega) (by omega)
        refine ⟨v, e, hv.trans ?_⟩
        rw [List.cons.injEq]
        exact ⟨fun h => ⟨he, h⟩, fun h => h.2⟩
      · rw [if_pos ((diff_tells _ _).2 he)]
        refine ⟨false, rfl, ?_⟩
        rw [List.cons.injEq]
        exact ⟨fun h => (by cases h), fun h => absurd h.1 he⟩
    · rw [narcissusref02_Same.l0, if_neg (by omega), List.drop_eq_nil_of_le (by omega), List.drop_eq_nil_of_le (by omega)]
      exact ⟨true, rfl, by simp⟩
  termination_by d => d
theorem same_tells (a b : List Ins) (ha : a.length ≤ 2932031007402) (k : Nat) (hk : a.length < k) : ∃ v, narcissusref02_Same.f k a b = some v ∧ (v = true ↔ a = b) := by
  unfold narcissusref02_Same.f
  by_cases h : (a.length : Int) = (b.length : Int)
  · rw [if_pos h]
    have := same_l a b (by omega) ha a.length k 0 rfl (by omega) hk
    simpa using this
  · rw [if_neg h]
    refine ⟨false, rfl, ?_⟩
    exact ⟨fun h => (by cases h), fun e => absurd (by rw [e]) h⟩
theorem same_yes (a : List Ins) (ha : a.length ≤ 2932031007402) (k : Nat) (hk : a.length < k) : narcissusref02_Same.f k a a = some true := by
  obtain ⟨v, e, hv⟩ := same_tells a a ha k hk
  rw [e, hv.2 rfl]
end Go.Proofs.YtocoamgbpoommaaGreatDoor.Plain
end
