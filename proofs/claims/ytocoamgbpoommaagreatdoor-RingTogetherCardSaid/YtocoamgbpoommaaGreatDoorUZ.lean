/- Texts of this claim, together: what the functions return, and what they say in plain words. -/
import Derived.Test.YtocoamgbpoommaaGreatDoorUN
import Derived.Test.YtocoamgbpoommaaGreatDoorUL
import Derived.Test.YtocoamgbpoommaaGreatDoorUQ
import Derived.Test.YtocoamgbpoommaaGreatDoorUY
import Derived.Test.YtocoamgbpoommaaGreatDoorUB
section
/- What ring.before tells: the instructions of its text. -/
namespace Go.Proofs.YtocoamgbpoommaaGreatDoor.Plain
open Go.Proofs.YtocoamgbpoommaaGreatDoor.C
open Go.RowKit Go.Proofs.YtocoamgbpoommaaGreatDoorW.PrintWords Go.Proofs.YtocoamgbpoommaaGreatDoorW.PrintLast Go.Proofs.YtocoamgbpoommaaGreatDoorW.PrintMore
set_option linter.unusedVariables false
set_option linter.unusedSimpArgs false

def beforeW : List (List UInt8) := [[104, 101, 97, 100, 32, 50, 32, 48], [116, 97, 105, 108, 32, 51, 32, 48], [115, 101, 116, 32, 48, 32, 48], [109, 111, 118, 101, 32, 52, 32, 50], [115, 101, 116, 32, 55, 32, 49, 48, 48], [106, 117, 109, 112, 32, 55, 32, 52], [104, 101, 97, 100, 32, 54, 32, 52], [99, 111, 110, 115, 32, 53, 32, 54, 32, 53], [116, 97, 105, 108, 32, 52, 32, 52], [106, 117, 109, 112, 32, 52, 32, 45, 51], [99, 111, 110, 115, 32, 56, 32, 55, 32, 50], [99, 111, 110, 115, 32, 56, 32, 49, 32, 56], [115, 101, 116, 32, 57, 32, 49, 48, 49, 49, 48, 48, 48], [115, 101, 116, 32, 49, 48, 32, 49, 49, 48, 49, 48, 48, 49, 48, 49, 49, 48, 48, 48], [106, 117, 109, 112, 32, 55, 32, 55], [104, 101, 97, 100, 32, 54, 32, 53], [99, 111, 110, 115, 32, 54, 32, 57, 32, 54], [99, 111, 110, 115, 32, 54, 32, 49, 48, 32, 54], [99, 111, 110, 115, 32, 54, 32, 56, 32, 54], [99, 111, 110, 115, 32, 48, 32, 54, 32, 48], [116, 97, 105, 108, 32, 53, 32, 53], [106, 117, 109, 112, 32, 53, 32, 45, 54], [99, 111, 110, 115, 32, 48, 32, 48, 32, 51], [115, 101, 116, 32, 50, 32, 48], [115, 101, 116, 32, 51, 32, 48], [115, 101, 116, 32, 54, 32, 48], [115, 101, 116, 32, 55, 32, 48], [115, 101, 116, 32, 56, 32, 48], [115, 101, 116, 32, 57, 32, 48], [115, 101, 116, 32, 49, 48, 32, 48]]
theorem each_one {s : ByteArray} {l : List ByteArray} {p : List Ins} {i : Ins} {r : Option (Option (List Ins))} (h : code_instr.f s = some (i, true)) (hp : p.length < 1000) (k : eachInstr l (p ++ [i]) = r) : eachInstr (s :: l) p = r := by
  rw [eachInstr, h, Option.bind_some, if_pos rfl, if_pos (by omega), k]
set_option maxRecDepth 100000 in
theorem before_each : eachInstr (beforeW.map bs) [] = some (some ringHead) := by
  refine each_one (i := ⟨3, 2, 0, 0, ⟨#[]⟩⟩) (by kernel_rfl) (by decide) ?_
  refine each_one (i := ⟨4, 3, 0, 0, ⟨#[]⟩⟩) (by kernel_rfl) (by decide) ?_
  refine each_one (i := ⟨0, 0, 0, 0, ⟨#[48]⟩⟩) (by kernel_rfl) (by decide) ?_
  refine each_one (i := ⟨1, 4, 2, 0, ⟨#[]⟩⟩) (by kernel_rfl) (by decide) ?_
  refine each_one (i := ⟨0, 7, 0, 0, ⟨#[49, 48, 48]⟩⟩) (by kernel_rfl) (by decide) ?_
  refine each_one (i := ⟨5, 7, 4, 0, ⟨#[]⟩⟩) (by kernel_rfl) (by decide) ?_
  refine each_one (i := ⟨3, 6, 4, 0, ⟨#[]⟩⟩) (by kernel_rfl) (by decide) ?_
  refine each_one (i := ⟨2, 5, 6, 5, ⟨#[]⟩⟩) (by kernel_rfl) (by decide) ?_
  refine each_one (i := ⟨4, 4, 4, 0, ⟨#[]⟩⟩) (by kernel_rfl) (by decide) ?_
  refine each_one (i := ⟨5, 4, -3, 0, ⟨#[]⟩⟩) (by kernel_rfl) (by decide) ?_
  refine each_one (i := ⟨2, 8, 7, 2, ⟨#[]⟩⟩) (by kernel_rfl) (by decide) ?_
  refine each_one (i := ⟨2, 8, 1, 8, ⟨#[]⟩⟩) (by kernel_rfl) (by decide) ?_
  refine each_one (i := ⟨0, 9, 0, 0, ⟨#[49, 48, 49, 49, 48, 48, 48]⟩⟩) (by kernel_rfl) (by decide) ?_
  refine each_one (i := ⟨0, 10, 0, 0, ⟨#[49, 49, 48, 49, 48, 48, 49, 48, 49, 49, 48, 48, 48]⟩⟩) (by kernel_rfl) (by decide) ?_
  refine each_one (i := ⟨5, 7, 7, 0, ⟨#[]⟩⟩) (by kernel_rfl) (by decide) ?_
  refine each_one (i := ⟨3, 6, 5, 0, ⟨#[]⟩⟩) (by kernel_rfl) (by decide) ?_
  refine each_one (i := ⟨2, 6, 9, 6, ⟨#[]⟩⟩) (by kernel_rfl) (by decide) ?_
  refine each_one (i := ⟨2, 6, 10, 6, ⟨#[]⟩⟩) (by kernel_rfl) (by decide) ?_
  refine each_one (i := ⟨2, 6, 8, 6, ⟨#[]⟩⟩) (by kernel_rfl) (by decide) ?_
  refine each_one (i := ⟨2, 0, 6, 0, ⟨#[]⟩⟩) (by kernel_rfl) (by decide) ?_
  refine each_one (i := ⟨4, 5, 5, 0, ⟨#[]⟩⟩) (by kernel_rfl) (by decide) ?_
  refine each_one (i := ⟨5, 5, -6, 0, ⟨#[]⟩⟩) (by kernel_rfl) (by decide) ?_
  refine each_one (i := ⟨2, 0, 0, 3, ⟨#[]⟩⟩) (by kernel_rfl) (by decide) ?_
  refine each_one (i := ⟨0, 2, 0, 0, ⟨#[48]⟩⟩) (by kernel_rfl) (by decide) ?_
  refine each_one (i := ⟨0, 3, 0, 0, ⟨#[48]⟩⟩) (by kernel_rfl) (by decide) ?_
  refine each_one (i := ⟨0, 6, 0, 0, ⟨#[48]⟩⟩) (by kernel_rfl) (by decide) ?_
  refine each_one (i := ⟨0, 7, 0, 0, ⟨#[48]⟩⟩) (by kernel_rfl) (by decide) ?_
  refine each_one (i := ⟨0, 8, 0, 0, ⟨#[48]⟩⟩) (by kernel_rfl) (by decide) ?_
  refine each_one (i := ⟨0, 9, 0, 0, ⟨#[48]⟩⟩) (by kernel_rfl) (by decide) ?_
  refine each_one (i := ⟨0, 10, 0, 0, ⟨#[48]⟩⟩) (by kernel_rfl) (by decide) ?_
  rfl
set_option maxRecDepth 100000 in
theorem before_split : ∃ l, strings_Split.f beforeB ⟨#[59, 32]⟩ = some l ∧ l = beforeW.map bs := by
  obtain ⟨l, h1, h2, _⟩ := split_tells beforeB ⟨#[59, 32]⟩ (by decide +kernel) (by decide)
  refine ⟨l, h1, ?_⟩
  have e : bl beforeB = joinS [59, 32] beforeW := by decide +kernel
  rw [e, show bl (⟨#[59, 32]⟩ : ByteArray) = [59, 32] from rfl, split_joinS 59 [32] beforeW (by decide) (by decide +kernel)] at h2
  rw [← h2, List.map_map]
  conv => lhs; rw [← List.map_id l]
  exact List.map_congr_left fun x _ => (bs_bl x).symm
set_option maxRecDepth 100000 in
theorem before_tells (k : Nat) (hk : 4010 ≤ k) : ring_before.f k = some (ringHead, 0) := by
  have hv : OKP ringHead := okp_iff.2 ⟨by decide, by decide +kernel, vi_ringHead⟩
  obtain ⟨l, hl, e⟩ := before_split
  unfold ring_before.f code_Parse.f
  rw [if_neg (by decide +kernel), if_neg (by decide +kernel), hl, Option.bind_some, e, before_each, Option.bind_some]
  simp only []
  rw [validp_yes hk hv]
  rfl
end Go.Proofs.YtocoamgbpoommaaGreatDoor.Plain
end
section
/- What Together tells, the program's and the reference's. -/
namespace Go.Proofs.YtocoamgbpoommaaGreatDoor.Plain
open Go.Proofs.YtocoamgbpoommaaGreatDoor.C
open Go.RowKit Go.Proofs.YtocoamgbpoommaaGreatDoorW.PrintWords Go.Proofs.YtocoamgbpoommaaGreatDoorW.PrintLast Go.Proofs.YtocoamgbpoommaaGreatDoorW.PrintMore
set_option linter.unusedVariables false
set_option linter.unusedSimpArgs false

/-! ### the program's -/
theorem spec_tells {r : List Ins} {y : ByteArray} (hr : OKP r) (hy : ValidT y) (k : Nat) (hk : 4020 ≤ k) :
    (OKP (specHead y ++ r) → spec_Spec.f k r y = some (specHead y ++ r, 0)) ∧ (¬ OKP (specHead y ++ r) → spec_Spec.f k r y = some ([], 3)) := by
  obtain ⟨k, rfl⟩ : ∃ m, k = m + 1 := ⟨k - 1, by omega⟩
  have h4 := hr.1
  have e : spec_Spec.f (k + 1) r y = (code_Valid.f k (specHead y ++ r)).bind fun t9 => (if t9 = true then (some (specHead y ++ r, 0)) else (some (([] : List Ins), 3))) := by
    unfold spec_Spec.f
    rw [validp_yes (by omega) hr, Option.bind_some, if_pos rfl, valid_yes hy, Option.bind_some, show (!true) = false from rfl, spec_Spec.j0, if_neg (by decide), Option.bind_some]
    rw [if_pos (by simp only [List.length_cons, List.length_nil]; omega), Option.bind_some]
    rfl
  constructor
  · intro h; rw [e, validp_yes (by omega) h]; rfl
  · intro h; rw [e, validp_no (by omega) h]; rfl
theorem specAll_yes {y : ByteArray} (hy : ValidT y) (k : Nat) (hk : 4020 ≤ k) : ∀ l : List (List Ins), (∀ r ∈ l, OKP r ∧ OKP (specHead y ++ r)) → specAll k y l = some (0, l.map fun r => specHead y ++ r)
  | [], _ => rfl
  | r :: l, h => by
    obtain ⟨h1, h2⟩ := h r List.mem_cons_self
    rw [specAll, (spec_tells h1 hy k hk).1 h2, Option.bind_some, if_pos rfl, specAll_yes hy k hk l (fun x hx => h x (List.mem_cons_of_mem _ hx))]
    rfl
theorem specAll_no {y : ByteArray} (hy : ValidT y) (k : Nat) (hk : 4020 ≤ k) : ∀ l : List (List Ins), (∀ r ∈ l, OKP r) → ¬ (∀ r ∈ l, OKP (specHead y ++ r)) → ∃ es, specAll k y l = some (3, es)
  | [], _, h => absurd (fun r hr => by cases hr) h
  | r :: l, h, hn => by
    have h1 := h r List.mem_cons_self
    by_cases h2 : OKP (specHead y ++ r)
    · obtain ⟨es, e⟩ := specAll_no hy k hk l (fun x hx => h x (List.mem_cons_of_mem _ hx)) (fun g => hn fun x hx => by
        rcases List.mem_cons.1 hx with rfl | hx
        · exact h2
        · exact g x hx)
      refine ⟨(specHead y ++ r) :: es, ?_⟩
      rw [specAll, (spec_tells h1 hy k hk).1 h2, Option.bind_some, if_pos rfl, e]
      rfl
    · exact ⟨[], by rw [specAll, (spec_tells h1 hy k hk).2 h2, Option.bind_some, if_neg (by decide)]⟩
/-- The programs, each supplied with the list of the codes of all. -/
def madeL (rs : List (List Ins)) : List (List Ins) := rs.map fun r => specHead (bs (tabL rs)) ++ r
theorem validT_tab {rs : List (List Ins)} (h : GoodL rs) : ValidT (bs (tabL rs)) := by
  refine ⟨by rw [bs_size, tabL_length]; have := h.2; omega, ?_⟩
  rw [bl_bs]
  refine isT_lst _ fun s hs => ?_
  obtain ⟨e, he, rfl⟩ := List.mem_map.1 hs
  exact isT_codeL (okp_nice (h.1 e he))
def behind (l : List (List Ins)) : List (List Ins) := l.map fun p => ringHead ++ p
/-- Nothing is too large. -/
def Fine (l : List (List Ins)) : Prop := GoodL (behind l) ∧ GoodL (madeL (behind l))
theorem togMid_yes {rs : List (List Ins)} (hl : rs.length ≤ 1000) (h1 : GoodL rs) (h2 : GoodL (madeL rs)) (k : Nat) (hk : 6000 ≤ k) : togMid k rs = some (madeL rs, 0) := by
  unfold togMid
  rw [ringList_yes hl h1 k hk, Option.bind_some]
  simp only [if_true]
  rw [specAll_yes (validT_tab h1) k (by omega) rs (fun r hr => ⟨h1.1 r hr, h2.1 _ (List.mem_map.2 ⟨r, hr, rfl⟩)⟩), Option.bind_some]
  unfold togEnd
  have hm : (madeL rs).length ≤ 1000 := by unfold madeL; rw [List.length_map]; exact hl
  simp only [if_true]
  rw [show (rs.map fun r => specHead (bs (tabL rs)) ++ r) = madeL rs from rfl, ringList_yes hm h2 k hk]
  rfl
theorem togMid_no {rs : List (List Ins)} (hl : rs.length ≤ 1000) (h : ¬ (GoodL rs ∧ GoodL (madeL rs))) (k : Nat) (hk : 6000 ≤ k) : togMid k rs = some ([], 3) := by
  unfold togMid
  by_cases h1 : GoodL rs
  · rw [ringList_yes hl h1 k hk, Option.bind_some]
    simp only [if_true]
    by_cases h2 : ∀ r ∈ rs, OKP (specHead (bs (tabL rs)) ++ r)
    · rw [specAll_yes (validT_tab h1) k (by omega) rs (fun r hr => ⟨h1.1 r hr, h2 r hr⟩), Option.bind_some]
      unfold togEnd
      have hm : (madeL rs).length ≤ 1000 := by unfold madeL; rw [List.length_map]; exact hl
      simp only [if_true]
      rw [show (rs.map fun r => specHead (bs (tabL rs)) ++ r) = madeL rs from rfl, ringList_no hm (fun g => h ⟨h1, g⟩) k hk]
      rfl
    · obtain ⟨es, e⟩ := specAll_no (validT_tab h1) k (by omega) rs h1.1 h2
      rw [e]
      rfl
  · rw [ringList_no hl h1 k hk]
    rfl
theorem validAll_yes (k : Nat) (hk : 4010 ≤ k) : ∀ l : List (List Ins), (∀ p ∈ l, OKP p) → validAll k l = some true
  | [], _ => rfl
  | p :: l, h => by rw [validAll, validp_yes hk (h p List.mem_cons_self), Option.bind_some, if_pos rfl, validAll_yes k hk l fun x hx => h x (List.mem_cons_of_mem _ hx)]
theorem validAll_no (k : Nat) (hk : 4010 ≤ k) : ∀ l : List (List Ins), ¬ (∀ p ∈ l, OKP p) → validAll k l = some false
  | [], h => absurd (fun p hp => by cases hp) h
  | p :: l, h => by
    by_cases h1 : OKP p
    · rw [validAll, validp_yes hk h1, Option.bind_some, if_pos rfl, validAll_no k hk l fun g => h fun x hx => by
        rcases List.mem_cons.1 hx with rfl | hx
        · exact h1
        · exact g x hx]
    · rw [validAll, validp_no hk h1, Option.bind_some, if_neg (by decide)]
theorem together_yes {l : List (List Ins)} (h : ∀ p ∈ l, OKP p) (h1 : 1 ≤ l.length) (h2 : l.length ≤ 40) (hf : Fine l) (k : Nat) (hk : 6000 ≤ k) : ring_Together.f k l = some (madeL (behind l), 0) := by
  unfold ring_Together.f
  rw [validAll_yes k (by omega) l h, Option.bind_some, if_pos rfl, if_neg (by omega), if_neg (by omega), before_tells k (by omega), Option.bind_some, if_pos ⟨by decide, by decide, fun p hp => by have := (h p hp).1; omega⟩]
  exact togMid_yes (by unfold behind; rw [List.length_map]; omega) hf.1 hf.2 k hk
theorem together_large {l : List (List Ins)} (h : ∀ p ∈ l, OKP p) (h1 : 1 ≤ l.length) (h2 : l.length ≤ 40) (hf : ¬ Fine l) (k : Nat) (hk : 6000 ≤ k) : ring_Together.f k l = some ([], 3) := by
  unfold ring_Together.f
  rw [validAll_yes k (by omega) l h, Option.bind_some, if_pos rfl, if_neg (by omega), if_neg (by omega), before_tells k (by omega), Option.bind_some, if_pos ⟨by decide, by decide, fun p hp => by have := (h p hp).1; omega⟩]
  exact togMid_no (by unfold behind; rw [List.length_map]; omega) hf k hk
theorem together_form {l : List (List Ins)} (h : ¬ ∀ p ∈ l, OKP p) (k : Nat) (hk : 6000 ≤ k) : ring_Together.f k l = some ([], 1) := by
  unfold ring_Together.f
  rw [validAll_no k (by omega) l h]
  rfl
theorem together_arg {l : List (List Ins)} (h : ∀ p ∈ l, OKP p) (hn : l.length < 1 ∨ 40 < l.length) (k : Nat) (hk : 6000 ≤ k) : ring_Together.f k l = some ([], 2) := by
  unfold ring_Together.f
  rw [validAll_yes k (by omega) l h, Option.bind_some, if_pos rfl]
  by_cases h1 : (l.length : Int) < 1
  · rw [if_pos h1]
  · rw [if_neg h1, if_pos (by omega)]
end Go.Proofs.YtocoamgbpoommaaGreatDoor.Plain
end
section
namespace Go.Proofs.YtocoamgbpoommaaGreatDoor.C
open Go.RowKit Go.Proofs.YtocoamgbpoommaaGreatDoorW.PrintWords Go.Proofs.YtocoamgbpoommaaGreatDoorW.PrintLast Go.Proofs.YtocoamgbpoommaaGreatDoorW.PrintMore
attribute [local go_sem] max2_int min2_int max_two min_two max_three min_three max_four min_four
set_option linter.unusedVariables false
set_option linter.unusedSimpArgs false

/-! ### narcissusref08_head: function 44 -/
def narcissusref08_head.f (a0 : Int) (a1 : Int) : Option (Int × Int × Int × Int × ByteArray) := some (3, a0, a1, 0, (⟨#[]⟩ : ByteArray))
set_option maxHeartbeats 8000000 in
set_option maxRecDepth 100000 in
theorem narcissusref08_head.calls (a0 : Int) (a1 : Int) (r1 : Int) (r2 : Int) (r3 : Int) (r4 : Int) (r5 : ByteArray) (w : World) (h : narcissusref08_head.f a0 a1 = some (r1, r2, r3, r4, r5)) :
  Calls Tryz.prog 44 #[.int .i64 a0, .int .i64 a1] w fun e w' => e = .returned (.agg #[.int .i64 r1, .int .i64 r2, .int .i64 r3, .int .i64 r4, .string r5]) ∧ Below w.heap.size w w' := by
 have hu72 := Tryz.underlying72
 have HB := Aside0.mk (Below.refl w.heap.size w)
 have H : (some (3, a0, a1, 0, (⟨#[]⟩ : ByteArray))) = some (r1, r2, r3, r4, r5) := h
 clear h
 simp only [Option.some.injEq, Prod.mk.injEq] at H
 obtain ⟨rfl, rfl, rfl, rfl, rfl⟩ := H
 go_enter Tryz.func44, Tryz.ntmps44
 go_wp2_with (first | ((with_reducible refine gate_dst (N := 4) rfl ?_); refine box_event ?hg (N := 4) ?hd (cs := #[.int .i64 0, .int .i64 0, .int .i64 0, .int .i64 0, .string (⟨#[]⟩ : ByteArray)]) (t := 72) ?hr ?_; (case hd => rfl); (case hg => rfl); (case hr => first | (go_simp; done) | (go_simp; rfl)); intro gb1 hg w3 hbox hb; have n0_ := Aside0.mk (below_step (by repeat (first | (with_reducible first | exact HB.out | apply below_alloc | apply pw_below_drewN | apply below_drew1) | exact HB.out)) hb); have n1_ := Aside0.mk (hbox); have n2_ := Aside0.mk ((by rw [hg]; exact (below_size (by repeat (first | (with_reducible first | exact HB.out | apply below_alloc | apply pw_below_drewN | apply below_drew1) | exact HB.out))) : w.heap.size ≤ gb1)); have n3_ := Aside0.mk ((by rw [hg]; exact (below_size (by repeat (first | (with_reducible first | exact HB.out | apply below_alloc | apply pw_below_drewN | apply below_drew1) | exact HB.out))) : w.heap.size ≤ gb1)); clear HB; have HB := n0_; have BK1 := n1_; have GW1 := n2_; have GE1 := n3_; clear n0_ n1_ n2_ n3_; clear hb hbox hg; have hcz4_0 : w3.cell? ⟨gb1, 0, none⟩ = some (.int .i64 0) := (blk_cell BK1.out 0).trans rfl; have hcz4_1 : w3.cell? ⟨gb1, 1, none⟩ = some (.int .i64 0) := (blk_cell BK1.out 1).trans rfl; have hcz4_2 : w3.cell? ⟨gb1, 2, none⟩ = some (.int .i64 0) := (blk_cell BK1.out 2).trans rfl; have hcz4_3 : w3.cell? ⟨gb1, 3, none⟩ = some (.int .i64 0) := (blk_cell BK1.out 3).trans rfl; have hcz4_4 : w3.cell? ⟨gb1, 4, none⟩ = some (.string (⟨#[]⟩ : ByteArray)) := (blk_cell BK1.out 4).trans rfl; have hfz4_0 := blk_frozen BK1.out 0; have hfz4_1 := blk_frozen BK1.out 1; have hfz4_2 := blk_frozen BK1.out 2; have hfz4_3 := blk_frozen BK1.out 3; have hfz4_4 := blk_frozen BK1.out 4))
 refine bodyPost_ret (results_cell_row rfl _ _ gb1 72 #[.int .i64 3, .int .i64 a0, .int .i64 a1, .int .i64 0, .string (⟨#[]⟩ : ByteArray)] (0, 0) _ rfl (by (with_reducible repeat (first | refine blk_drewN ?_ _ | refine blk_drew ?_ | refine blk_alloc ?_ _)); refine blk_put (cs := #[.int .i64 3, .int .i64 a0, .int .i64 a1, .int .i64 0, .string (⟨#[]⟩ : ByteArray)]) ?_ 4 _ rfl; (with_reducible repeat (first | refine blk_drewN ?_ _ | refine blk_drew ?_ | refine blk_alloc ?_ _)); refine blk_put (cs := #[.int .i64 3, .int .i64 a0, .int .i64 a1, .int .i64 0, .string (⟨#[]⟩ : ByteArray)]) ?_ 3 _ rfl; (with_reducible repeat (first | refine blk_drewN ?_ _ | refine blk_drew ?_ | refine blk_alloc ?_ _)); refine blk_put (cs := #[.int .i64 3, .int .i64 a0, .int .i64 0, .int .i64 0, .string (⟨#[]⟩ : ByteArray)]) ?_ 2 _ rfl; (with_reducible repeat (first | refine blk_drewN ?_ _ | refine blk_drew ?_ | refine blk_alloc ?_ _)); refine blk_put (cs := #[.int .i64 3, .int .i64 0, .int .i64 0, .int .i64 0, .string (⟨#[]⟩ : ByteArray)]) ?_ 1 _ rfl; (with_reducible repeat (first | refine blk_drewN ?_ _ | refine blk_drew ?_ | refine blk_alloc ?_ _)); refine blk_put (cs := #[.int .i64 0, .int .i64 0, .int .i64 0, .int .i64 0, .string (⟨#[]⟩ : ByteArray)]) ?_ 0 _ rfl; (with_reducible repeat (first | refine blk_drewN ?_ _ | refine blk_drew ?_ | refine blk_alloc ?_ _)); exact BK1.out) Tryz.underlying72 rfl (by kernel_rfl)) rfl ?_
 exact ⟨by first | rfl | (simp [errW_none, errW_some] <;> rfl) | (simp [*, errW_none, errW_some] <;> rfl), by repeat (first | (with_reducible first | exact HB.out | apply below_alloc | apply pw_below_drewN | apply below_drew1 | refine below_set ?_ GE1.out) | exact HB.out)⟩

end Go.Proofs.YtocoamgbpoommaaGreatDoor.C
end
section
namespace Go.Proofs.YtocoamgbpoommaaGreatDoor.C
open Go.RowKit Go.Proofs.YtocoamgbpoommaaGreatDoorW.PrintWords Go.Proofs.YtocoamgbpoommaaGreatDoorW.PrintLast Go.Proofs.YtocoamgbpoommaaGreatDoorW.PrintMore
attribute [local go_sem] max2_int min2_int max_two min_two max_three min_three max_four min_four
set_option linter.unusedVariables false
set_option linter.unusedSimpArgs false

/-! ### narcissusref08_tail: function 45 -/
def narcissusref08_tail.f (a0 : Int) (a1 : Int) : Option (Int × Int × Int × Int × ByteArray) := some (4, a0, a1, 0, (⟨#[]⟩ : ByteArray))
set_option maxHeartbeats 8000000 in
set_option maxRecDepth 100000 in
theorem narcissusref08_tail.calls (a0 : Int) (a1 : Int) (r1 : Int) (r2 : Int) (r3 : Int) (r4 : Int) (r5 : ByteArray) (w : World) (h : narcissusref08_tail.f a0 a1 = some (r1, r2, r3, r4, r5)) :
  Calls Tryz.prog 45 #[.int .i64 a0, .int .i64 a1] w fun e w' => e = .returned (.agg #[.int .i64 r1, .int .i64 r2, .int .i64 r3, .int .i64 r4, .string r5]) ∧ Below w.heap.size w w' := by
 have hu72 := Tryz.underlying72
 have HB := Aside0.mk (Below.refl w.heap.size w)
 have H : (some (4, a0, a1, 0, (⟨#[]⟩ : ByteArray))) = some (r1, r2, r3, r4, r5) := h
 clear h
 simp only [Option.some.injEq, Prod.mk.injEq] at H
 obtain ⟨rfl, rfl, rfl, rfl, rfl⟩ := H
 go_enter Tryz.func45, Tryz.ntmps45
 go_wp2_with (first | ((with_reducible refine gate_dst (N := 4) rfl ?_); refine box_event ?hg (N := 4) ?hd (cs := #[.int .i64 0, .int .i64 0, .int .i64 0, .int .i64 0, .string (⟨#[]⟩ : ByteArray)]) (t := 72) ?hr ?_; (case hd => rfl); (case hg => rfl); (case hr => first | (go_simp; done) | (go_simp; rfl)); intro gb1 hg w3 hbox hb; have n0_ := Aside0.mk (below_step (by repeat (first | (with_reducible first | exact HB.out | apply below_alloc | apply pw_below_drewN | apply below_drew1) | exact HB.out)) hb); have n1_ := Aside0.mk (hbox); have n2_ := Aside0.mk ((by rw [hg]; exact (below_size (by repeat (first | (with_reducible first | exact HB.out | apply below_alloc | apply pw_below_drewN | apply below_drew1) | exact HB.out))) : w.heap.size ≤ gb1)); have n3_ := Aside0.mk ((by rw [hg]; exact (below_size (by repeat (first | (with_reducible first | exact HB.out | apply below_alloc | apply pw_below_drewN | apply below_drew1) | exact HB.out))) : w.heap.size ≤ gb1)); clear HB; have HB := n0_; have BK1 := n1_; have GW1 := n2_; have GE1 := n3_; clear n0_ n1_ n2_ n3_; clear hb hbox hg; have hcz4_0 : w3.cell? ⟨gb1, 0, none⟩ = some (.int .i64 0) := (blk_cell BK1.out 0).trans rfl; have hcz4_1 : w3.cell? ⟨gb1, 1, none⟩ = some (.int .i64 0) := (blk_cell BK1.out 1).trans rfl; have hcz4_2 : w3.cell? ⟨gb1, 2, none⟩ = some (.int .i64 0) := (blk_cell BK1.out 2).trans rfl; have hcz4_3 : w3.cell? ⟨gb1, 3, none⟩ = some (.int .i64 0) := (blk_cell BK1.out 3).trans rfl; have hcz4_4 : w3.cell? ⟨gb1, 4, none⟩ = some (.string (⟨#[]⟩ : ByteArray)) := (blk_cell BK1.out 4).trans rfl; have hfz4_0 := blk_frozen BK1.out 0; have hfz4_1 := blk_frozen BK1.out 1; have hfz4_2 := blk_frozen BK1.out 2; have hfz4_3 := blk_frozen BK1.out 3; have hfz4_4 := blk_frozen BK1.out 4))
 refine bodyPost_ret (results_cell_row rfl _ _ gb1 72 #[.int .i64 4, .int .i64 a0, .int .i64 a1, .int .i64 0, .string (⟨#[]⟩ : ByteArray)] (0, 0) _ rfl (by (with_reducible repeat (first | refine blk_drewN ?_ _ | refine blk_drew ?_ | refine blk_alloc ?_ _)); refine blk_put (cs := #[.int .i64 4, .int .i64 a0, .int .i64 a1, .int .i64 0, .string (⟨#[]⟩ : ByteArray)]) ?_ 4 _ rfl; (with_reducible repeat (first | refine blk_drewN ?_ _ | refine blk_drew ?_ | refine blk_alloc ?_ _)); refine blk_put (cs := #[.int .i64 4, .int .i64 a0, .int .i64 a1, .int .i64 0, .string (⟨#[]⟩ : ByteArray)]) ?_ 3 _ rfl; (with_reducible repeat (first | refine blk_drewN ?_ _ | refine blk_drew ?_ | refine blk_alloc ?_ _)); refine blk_put (cs := #[.int .i64 4, .int .i64 a0, .int .i64 0, .int .i64 0, .string (⟨#[]⟩ : ByteArray)]) ?_ 2 _ rfl; (with_reducible repeat (first | refine blk_drewN ?_ _ | refine blk_drew ?_ | refine blk_alloc ?_ _)); refine blk_put (cs := #[.int .i64 4, .int .i64 0, .int .i64 0, .int .i64 0, .string (⟨#[]⟩ : ByteArray)]) ?_ 1 _ rfl; (with_reducible repeat (first | refine blk_drewN ?_ _ | refine blk_drew ?_ | refine blk_alloc ?_ _)); refine blk_put (cs := #[.int .i64 0, .int .i64 0, .int .i64 0, .int .i64 0, .string (⟨#[]⟩ : ByteArray)]) ?_ 0 _ rfl; (with_reducible repeat (first | refine blk_drewN ?_ _ | refine blk_drew ?_ | refine blk_alloc ?_ _)); exact BK1.out) Tryz.underlying72 rfl (by kernel_rfl)) rfl ?_
 exact ⟨by first | rfl | (simp [errW_none, errW_some] <;> rfl) | (simp [*, errW_none, errW_some] <;> rfl), by repeat (first | (with_reducible first | exact HB.out | apply below_alloc | apply pw_below_drewN | apply below_drew1 | refine below_set ?_ GE1.out) | exact HB.out)⟩

end Go.Proofs.YtocoamgbpoommaaGreatDoor.C
end
