/- Texts of this claim, together: what the functions return, and what they say in plain words. -/
import Derived.Test.YtocoamgbpoommaaGreatDoorUAB
import Derived.Test.YtocoamgbpoommaaGreatDoorUW
import Derived.Test.YtocoamgbpoommaaGreatDoorUX
import Derived.Test.YtocoamgbpoommaaGreatDoorCards
import Derived.Test.YtocoamgbpoommaaGreatDoorTie
import Derived.Test.YtocoamgbpoommaaGreatDoorUC
import Derived.WalkKit
import Derived.ProofKit
import Derived.OpenShut
import Derived.ShutString
import Derived.ChangeOld
import Derived.Below
import Derived.SizedLaws
import Derived.Deep.DeepHandedRow
import Derived.Lib.LaidTab
import Derived.Stop.LaidErr
import Derived.Shelf.Vars
import Derived.Lay
section
namespace Go.Proofs.YtocoamgbpoommaaGreatDoor.Plain
open Go.Proofs.YtocoamgbpoommaaGreatDoor.C
open Go.RowKit Go.Proofs.YtocoamgbpoommaaGreatDoorW.PrintWords Go.Proofs.YtocoamgbpoommaaGreatDoorW.PrintLast Go.Proofs.YtocoamgbpoommaaGreatDoorW.PrintMore
set_option linter.unusedVariables false
set_option linter.unusedSimpArgs false
def bearQ (w : Nat) (p : List Ins) : List Ins := [⟨3, (w : Int), 0, 0, ⟨#[]⟩⟩, ⟨4, 0, 0, 0, ⟨#[]⟩⟩] ++ p ++ [⟨2, 0, (w : Int), 0, ⟨#[]⟩⟩]
theorem bearQ_length (w : Nat) (p : List Ins) : (bearQ w p).length = p.length + 3 := by unfold bearQ; simp
theorem vi_bearQ {w : Nat} {p : List Ins} (hw : w < 32) (h : VI p) : VI (bearQ w p) := by
  unfold bearQ
  have hr : Reg (w : Int) := ⟨by omega, by omega⟩
  have h0 : Reg 0 := ⟨by decide, by decide⟩
  refine vi_append (vi_append (fun j hj => ?_) h) (fun j hj => ?_)
  · match j, hj with
    | 0, _ => exact .inr (.inl ⟨.inr (.inl rfl), hr, h0, rfl, rfl⟩)
    | 1, _ => exact .inr (.inl ⟨.inr (.inr rfl), h0, h0, rfl, rfl⟩)
  · match j, hj with
    | 0, _ => exact .inr (.inr (.inl ⟨rfl, h0, hr, h0, rfl⟩))
theorem ringBearer_is {p : List Ins} (hp : OKP p) {w : Nat} (h31 : w ≤ 31) (k : Nat) (hw : code_Regs.f k p = some ((w : Int), 0)) : ring_Bearer.f k p = (code_Valid.f k (bearQ w p)).bind fun t12 => if t12 = true then (know_Know.f k (bearQ w p)).bind fun bt13 => some (bt13.1, bt13.2) else some ([], 3) := by
  have h4 := hp.1
  unfold ring_Bearer.f
  rw [hw, Option.bind_some, if_pos rfl, if_neg (by omega), Option.bind_some, if_pos (by simp; omega), Option.bind_some, if_pos (by simp; omega), Option.bind_some]
  rfl
theorem refBearer_is {p : List Ins} (hp : OKP p) {w : Nat} (h31 : w ≤ 31) (k : Nat) (hw : narcissusref02_Regs.f k p = some (w : Int)) : narcissusref08_Bearer.f k p = (narcissusref07_Made.f k (bearQ w p)).bind fun bt26 => some (bt26.1, bt26.2) := by
  have h4 := hp.1
  unfold narcissusref08_Bearer.f
  simp only [narcissusref08_head.f, narcissusref08_tail.f, narcissusref08_cons.f, Option.bind_some]
  rw [hw, Option.bind_some, if_neg (by omega), if_pos (by simp; omega), if_pos (by simp; omega)]
  rfl
theorem bearer_yes {p : List Ins} (hp : OKP p) {w : Nat} (h31 : w ≤ 31) (hf : OKP (bearQ w p) ∧ FineK (bearQ w p)) (k : Nat) (hk : 8120 ≤ k) (h1 : code_Regs.f k p = some ((w : Int), 0)) (h2 : narcissusref02_Regs.f k p = some (w : Int)) :
    ring_Bearer.f k p = some (madeK (bearQ w p), 0) ∧ narcissusref08_Bearer.f k p = some (madeK (bearQ w p), 0) := by
  have hv := vi_bearQ (w := w) (by omega) (okp_iff.1 hp).2.2
  have hl : (bearQ w p).length ≤ 1000000 := by rw [bearQ_length]; have := hp.1; omega
  refine ⟨?_, ?_⟩
  · rw [ringBearer_is hp h31 k h1, validp_yes (by omega) hf.1, Option.bind_some, if_pos rfl, know_yes hf.1 hf.2 k (by omega)]; rfl
  · rw [refBearer_is hp h31 k h2, (refMade_tells hv hl k (by omega)).1 hf]; rfl
theorem bearer_large {p : List Ins} (hp : OKP p) {w : Nat} (h31 : w ≤ 31) (hf : ¬ (OKP (bearQ w p) ∧ FineK (bearQ w p))) (k : Nat) (hk : 8120 ≤ k) (h1 : code_Regs.f k p = some ((w : Int), 0)) (h2 : narcissusref02_Regs.f k p = some (w : Int)) :
    ring_Bearer.f k p = some ([], 3) ∧ narcissusref08_Bearer.f k p = some ([], 3) := by
  have hv := vi_bearQ (w := w) (by omega) (okp_iff.1 hp).2.2
  have hl : (bearQ w p).length ≤ 1000000 := by rw [bearQ_length]; have := hp.1; omega
  refine ⟨?_, ?_⟩
  · rw [ringBearer_is hp h31 k h1]
    by_cases h0 : OKP (bearQ w p)
    · rw [validp_yes (by omega) h0, Option.bind_some, if_pos rfl, know_large h0 (fun h => hf ⟨h0, h⟩) k (by omega)]; rfl
    · rw [validp_no (by omega) h0, Option.bind_some, if_neg (by decide)]
  · rw [refBearer_is hp h31 k h2, (refMade_tells hv hl k (by omega)).2 hf]; rfl
theorem bearer_regs {p : List Ins} {w : Nat} (h31 : 31 < w) (k : Nat) (h1 : code_Regs.f k p = some ((w : Int), 0)) (h2 : narcissusref02_Regs.f k p = some (w : Int)) :
    ring_Bearer.f k p = some ([], 8) ∧ narcissusref08_Bearer.f k p = some ([], 8) := by
  refine ⟨?_, ?_⟩
  · unfold ring_Bearer.f; rw [h1, Option.bind_some, if_pos rfl, if_pos (by omega)]
  · unfold narcissusref08_Bearer.f; rw [h2, Option.bind_some, if_pos (by omega)]
theorem runM_at {q : List Ins} {m : Nat} {x : Tr} {a : Int} {r : Rg} (h : Goes q m 0 (init x) a r) (k : Nat) :
    runM q x (m + k) = if (after q k a r).2.2.2 = true then (if (after q k a r).1 = (q.length : Int) then ((after q k a r).2.1 0, (after q k a r).2.2.1 + m, 0) else (.nil, 0, 7)) else (.nil, 0, 3) := by
  unfold runM
  simp only
  rw [h k]
theorem codeT_madeK {q : List Ins} (h : OKP (knowHead ++ q)) : codeT (madeK q) = cellT (codeT (knowHead ++ q)) (codeT (knowHead ++ q)) := by
  unfold madeK
  rw [codeT_spec, bl_bs, dec_codeL h]
theorem madeK_run {q : List Ins} (hq : OKP q) (h : OKP (knowHead ++ q)) (x : Tr) (hz : 1 + (codeT (madeK q)).size + x.size ≤ 2000000) (k : Nat) :
    runM (madeK q) x (19 + k) = ((runM q (.cons (codeT (madeK q)) x) k).1, if (runM q (.cons (codeT (madeK q)) x) k).2.2 = 0 then (runM q (.cons (codeT (madeK q)) x) k).2.1 + 19 else 0, (runM q (.cons (codeT (madeK q)) x) k).2.2) := by
  have hm := codeT_madeK h
  rw [hm] at hz ⊢
  have e : madeK q = (specHead (bs (codeL (knowHead ++ q))) ++ knowHead) ++ q := by unfold madeK; rw [List.append_assoc]
  rw [e]
  refine run_behind (pre := specHead (bs (codeL (knowHead ++ q))) ++ knowHead) (p := q) (m := 19) (fun i hi => ?_) ?_ k
  · have := (okp_iff.1 hq).2.2 i hi
    rw [List.getD_eq_getElem?_getD, List.getElem?_eq_getElem hi]
    exact this
  · refine know_prefix (y := bs (codeL (knowHead ++ q))) (fun i hi => ?_) ?_ (codeT (knowHead ++ q)) (by rw [bl_bs, dec_codeL h]) x hz
    · rw [List.getD_eq_getElem?_getD, List.getElem?_append_left (by simp [specHead, knowHead]; omega), ← List.getD_eq_getElem?_getD]
    · simp [specHead, knowHead]
theorem far_of {w : Nat} (hw : 1 ≤ w) {x : Ins} (h : Under ((w : Int) - 1) x) : Far x w := by
  obtain ⟨h1, h2⟩ := h
  by_cases h5 : x.f0 = 5
  · exact .inr ⟨h5, by omega⟩
  · obtain ⟨h3, h4⟩ := h2 h5
    exact .inl ⟨by omega, by omega, by omega⟩
theorem after_le (p : List Ins) : ∀ (k : Nat) (a : Int) (r : Rg), (after p k a r).2.2.1 ≤ k
  | 0, _, _ => Nat.le_refl _
  | k + 1, a, r => by
    rw [after]
    split
    · exact Nat.zero_le _
    · split
      · exact Nat.zero_le _
      · rename_i q _
        have := after_le p k (a + q.1) q.2
        show (after p k (a + q.1) q.2).2.2.1 + 1 ≤ k + 1
        omega
theorem bear_begin {w : Nat} (hw : 1 ≤ w) (p : List Ins) (C x : Tr) : Goes (bearQ w p) 2 0 (init (.cons C x)) 2 (upd (init x) w C) := by
  have hl := bearQ_length w p
  rw [show (2 : Nat) = 0 + 1 + 1 from rfl]
  refine go1 ⟨3, (w : Int), 0, 0, ⟨#[]⟩⟩ (by omega) rfl (ex_head w 0 _) (a1 := 1) rfl ?_
  refine go1 ⟨4, 0, 0, 0, ⟨#[]⟩⟩ (by omega) rfl (ex_tail 0 0 _) (a1 := 2) rfl ?_
  rw [show ((0 : Int).toNat) = 0 from rfl, show ((w : Int).toNat) = w from Int.toNat_natCast w, up_far _ _ _ _ _ (show 0 ≠ w by omega), up_init, up_get _ _ _ _ (show 0 ≠ w by omega)]
  exact Goes.refl _ _ _
theorem bear_run {p : List Ins} (hp : OKP p) {w : Nat} (hw : 1 ≤ w) (hu : ∀ x ∈ p, Under ((w : Int) - 1) x) (C x : Tr) (k : Nat) :
    ((runM p x k).2.2 = 0 → 2000000 < 1 + C.size + (runM p x k).1.size → (runM (bearQ w p) (.cons C x) (k + 3)).2.2 = 3) ∧
    ((runM p x k).2.2 = 0 → 1 + C.size + (runM p x k).1.size ≤ 2000000 → runM (bearQ w p) (.cons C x) (k + 3) = (.cons C (runM p x k).1, (runM p x k).2.1 + 3, 0)) ∧
    ((runM p x k).2.2 = 3 → (runM (bearQ w p) (.cons C x) (k + 3)).2.2 = 3) ∧ ((runM p x k).2.2 = 7 → (runM (bearQ w p) (.cons C x) (k + 3)).2.2 ≠ 0) := by
  have hl := bearQ_length w p
  have hR : ∀ j, j < p.length → Right (p.getD j zz) j p.length := fun i hi => by
    have := (okp_iff.1 hp).2.2 i hi
    rw [List.getD_eq_getElem?_getD, List.getElem?_eq_getElem hi]
    exact this
  obtain ⟨g, i0, i1, i2, i3⟩ := inside [⟨3, (w : Int), 0, 0, ⟨#[]⟩⟩, ⟨4, 0, 0, 0, ⟨#[]⟩⟩] p [⟨2, 0, (w : Int), 0, ⟨#[]⟩⟩] w C (fun x hx => far_of hw (hu x hx)) hR k 0 (init x) (Int.le_refl _) (by omega)
  have hn := after_le p k 0 (init x)
  have gq : Goes (bearQ w p) (2 + (after p k 0 (init x)).2.2.1) 0 (init (.cons C x)) (2 + (after p k 0 (init x)).1) (upd (after p k 0 (init x)).2.1 w C) := (bear_begin hw p C x).trans g
  clear g
  have hr : runM p x k = if (after p k 0 (init x)).2.2.2 = true then (if (after p k 0 (init x)).1 = (p.length : Int) then ((after p k 0 (init x)).2.1 0, (after p k 0 (init x)).2.2.1, 0) else (.nil, 0, 7)) else (.nil, 0, 3) := rfl
  have h1 : after p 1 (after p k 0 (init x)).1 (after p k 0 (init x)).2.1 = after p 1 (after p k 0 (init x)).1 (after p k 0 (init x)).2.1 := rfl
  have hone := (after_behind [] p hR 1 (after p k 0 (init x)).1 (after p k 0 (init x)).2.1 i0 i1).2
  clear h1
  generalize hs : after p k 0 (init x) = s at *
  obtain ⟨a, r, n, ok⟩ := s
  dsimp only at *
  have hat : ∀ j : Nat, a = (j : Int) → j < p.length → (bearQ w p).getD (2 + a).toNat zz = p.getD j zz := fun j e hj => by
    subst e
    unfold bearQ
    rw [show (2 + (j : Int)).toNat = 2 + j from by omega, List.getD_eq_getElem?_getD, List.getElem?_append_left (by simp; omega), List.getElem?_append_right (by simp), List.getD_eq_getElem?_getD]
    simp
  cases ok with
  | false =>
    obtain ⟨j1, j2, j3⟩ := i3 rfl
    obtain ⟨j, rfl⟩ := Int.eq_ofNat_of_zero_le i0
    rw [if_neg (by decide)] at hr
    have he : exec ((bearQ w p).getD (2 + (j : Int)).toNat zz) (upd r w C) = none := by
      rw [hat j rfl (by omega), exec_far _ w C (far_of hw (hu _ (by rw [List.getD_eq_getElem?_getD, List.getElem?_eq_getElem (by omega)]; exact List.getElem_mem (by omega))))]
      rw [Int.toNat_natCast] at j2
      rw [j2]
      rfl
    obtain ⟨f, hf⟩ : ∃ f, k + 3 = 2 + n + (f + 1) := ⟨k - n, by omega⟩
    have hq : runM (bearQ w p) (.cons C x) (k + 3) = (.nil, 0, 3) := by
      have hA : after (bearQ w p) (f + 1) (2 + (j : Int)) (upd r w C) = (2 + (j : Int), upd r w C, 0, false) := by rw [after, if_neg (by rw [hl]; omega), he]
      rw [hf, runM_at gq, hA]
      rfl
    rw [hr, hq]
    exact ⟨fun h => (by cases h), fun h => (by cases h), fun _ => rfl, fun h => (by cases h)⟩
  | true =>
    rw [if_pos rfl] at hr
    by_cases hend : a = (p.length : Int)
    · subst hend
      rw [if_pos rfl] at hr
      have hx : (bearQ w p).getD (2 + (p.length : Int)).toNat zz = ⟨2, 0, (w : Int), 0, ⟨#[]⟩⟩ := by
        unfold bearQ
        rw [show (2 + (p.length : Int)).toNat = p.length + 2 from by omega, List.getD_eq_getElem?_getD, List.getElem?_append_right (by simp)]
        simp
      have hw0 : upd r w C w = C := by unfold upd; rw [if_pos rfl]
      have h00 : upd r w C 0 = r 0 := up_get _ _ _ _ (by omega)
      obtain ⟨f, hf⟩ : ∃ f, k + 3 = 2 + n + (f + 1) := ⟨k - n, by omega⟩
      by_cases hbig : 2000000 < 1 + C.size + (r 0).size
      · have he : exec ⟨2, 0, (w : Int), 0, ⟨#[]⟩⟩ (upd r w C) = none := by
          show (if 2000000 < 1 + (upd r w C (w : Int).toNat).size + (upd r w C (0 : Int).toNat).size then none else _) = none
          rw [Int.toNat_natCast, hw0, show (0 : Int).toNat = 0 from rfl, h00, if_pos hbig]
        have hq : runM (bearQ w p) (.cons C x) (k + 3) = (.nil, 0, 3) := by
          have hA : after (bearQ w p) (f + 1) (2 + (p.length : Int)) (upd r w C) = (2 + (p.length : Int), upd r w C, 0, false) := by rw [after, if_neg (by rw [hl]; omega), hx, he]
          rw [hf, runM_at gq, hA]
          rfl
        rw [hr, hq]
        exact ⟨fun _ _ => rfl, fun _ (h : 1 + C.size + (r 0).size ≤ 2000000) => absurd hbig (by omega), fun h => (by cases h), fun h => (by cases h)⟩
      · have he : exec ⟨2, 0, (w : Int), 0, ⟨#[]⟩⟩ (upd r w C) = some (1, upd (upd r w C) 0 (.cons C (r 0))) := by
          rw [ex_cons 0 w 0 _ (by rw [Int.toNat_natCast, hw0, show (0 : Int).toNat = 0 from rfl, h00]; omega), Int.toNat_natCast, hw0, show (0 : Int).toNat = 0 from rfl, h00]
        have hstop : ∀ f r', after (bearQ w p) f (2 + (p.length : Int) + 1) r' = (2 + (p.length : Int) + 1, r', 0, true) := fun f r' => by
          cases f with
          | zero => rfl
          | succ f => rw [after, if_pos (by rw [hl]; omega)]
        have hq : runM (bearQ w p) (.cons C x) (k + 3) = (.cons C (r 0), n + 3, 0) := by
          have hA : after (bearQ w p) (f + 1) (2 + (p.length : Int)) (upd r w C) = (2 + (p.length : Int) + 1, upd (upd r w C) 0 (Tr.cons C (r 0)), 0 + 1, true) := by
            rw [after, if_neg (by rw [hl]; omega), hx, he]
            simp only [hstop]
          rw [hf, runM_at gq, hA, if_pos rfl, if_pos (by rw [hl]; show 2 + (p.length : Int) + 1 = _; omega)]
          show (upd (upd r w C) 0 (Tr.cons C (r 0)) 0, 0 + 1 + (2 + n), (0 : Int)) = _
          have : upd (upd r w C) 0 (Tr.cons C (r 0)) 0 = Tr.cons C (r 0) := by unfold upd; rw [if_pos rfl]
          rw [this, show 0 + 1 + (2 + n) = n + 3 from by omega]
        rw [hr, hq]
        exact ⟨fun _ h => absurd h hbig, fun _ _ => rfl, fun h => (by cases h), fun h => (by cases h)⟩
    · rw [if_neg hend] at hr
      have hnk : n = k := (i2 rfl).resolve_left hend
      subst hnk
      obtain ⟨j, rfl⟩ := Int.eq_ofNat_of_zero_le i0
      have hq : (runM (bearQ w p) (.cons C x) (n + 3)).2.2 ≠ 0 := by
        have hfar := exec_far _ w C (far_of hw (hu (p.getD j zz) (by rw [List.getD_eq_getElem?_getD, List.getElem?_eq_getElem (by omega)]; exact List.getElem_mem (by omega)))) r
        rw [show n + 3 = 2 + n + (0 + 1) from by omega, runM_at gq]
        rw [after, if_neg hend, Int.toNat_natCast] at hone
        cases he : exec (p.getD j zz) r with
        | none =>
          rw [he] at hfar
          have hA : after (bearQ w p) (0 + 1) (2 + (j : Int)) (upd r w C) = (2 + (j : Int), upd r w C, 0, false) := by rw [after, if_neg (by rw [hl]; omega), hat j rfl (by omega), hfar]; rfl
          rw [hA, if_neg (fun h => by cases h)]
          decide
        | some v =>
          rw [he] at hone hfar
          have hA : after (bearQ w p) (0 + 1) (2 + (j : Int)) (upd r w C) = (2 + (j : Int) + v.1, upd v.2 w C, 0 + 1, true) := by rw [after, if_neg (by rw [hl]; omega), hat j rfl (by omega), hfar]; rfl
          have h2 : (j : Int) + v.1 ≤ (p.length : Int) := hone.2
          rw [hA, if_pos rfl, if_neg (by rw [hl]; show ¬ (2 + (j : Int) + v.1 = _); omega)]
          decide
      rw [hr]
      exact ⟨fun h => (by cases h), fun h => (by cases h), fun h => (by cases h), fun _ => hq⟩
theorem bears_run {p : List Ins} (hp : OKP p) {w : Nat} (hw : 1 ≤ w) (hu : ∀ x ∈ p, Under ((w : Int) - 1) x) (hf : OKP (bearQ w p) ∧ FineK (bearQ w p)) (x : Tr) (hz : 1 + (codeT (madeK (bearQ w p))).size + x.size ≤ 2000000) (k : Nat) :
    ((runM p x k).2.2 = 0 → 2000000 < 1 + (codeT (madeK (bearQ w p))).size + (runM p x k).1.size → (runM (madeK (bearQ w p)) x (k + 22)).2.2 = 3) ∧
    ((runM p x k).2.2 = 0 → 1 + (codeT (madeK (bearQ w p))).size + (runM p x k).1.size ≤ 2000000 → runM (madeK (bearQ w p)) x (k + 22) = (.cons (codeT (madeK (bearQ w p))) (runM p x k).1, (runM p x k).2.1 + 22, 0)) ∧
    ((runM p x k).2.2 = 3 → (runM (madeK (bearQ w p)) x (k + 22)).2.2 = 3) ∧ ((runM p x k).2.2 = 7 → (runM (madeK (bearQ w p)) x (k + 22)).2.2 ≠ 0) := by
  have hm := madeK_run hf.1 hf.2.1.1 x hz (k + 3)
  rw [show 19 + (k + 3) = k + 22 from by omega] at hm
  obtain ⟨b1, b2, b3, b4⟩ := bear_run hp hw hu (codeT (madeK (bearQ w p))) x k
  rw [hm]
  refine ⟨b1, fun h0 hs => ?_, b3, b4⟩
  rw [b2 h0 hs]
  rfl
end Go.Proofs.YtocoamgbpoommaaGreatDoor.Plain
end
section
namespace Go.Proofs.YtocoamgbpoommaaGreatDoor.C
open Go.RowKit Go.Proofs.YtocoamgbpoommaaGreatDoorW.PrintWords Go.Proofs.YtocoamgbpoommaaGreatDoorW.PrintLast Go.Proofs.YtocoamgbpoommaaGreatDoorW.PrintMore
set_option linter.unusedVariables false
set_option linter.unusedSimpArgs false
theorem one_row {w : World} {A : Option Addr} {m c : Nat} {p : Prg} (hn : p.length = m) (h : Kd.C k72 w A m p) (hc : m ≤ c) :
    Kd.C (Kd.slice 72 k72) (w.alloc (.cells #[.slice A m c] 47 (0, 0))) (some ⟨w.heap.size, 0, none⟩) 1 [p] := by
  refine ⟨rfl, by decide, fun _ => ⟨_, rfl, fun j q hq => ?_⟩⟩
  obtain ⟨rfl, rfl⟩ : j = 0 ∧ p = q := by
    match j, hq with
    | 0, hq => exact ⟨rfl, Option.some.inj hq⟩
  refine ⟨[.slice A p.length c], rfl, ⟨A, c, rfl, by rw [hn]; exact hc, by rw [hn]; exact Kd.C_below h (below_alloc (Below.refl _ _) _)⟩, fun i u hu => ?_⟩
  match i, hu with
  | 0, hu =>
    obtain rfl : Value.slice A p.length c = u := Option.some.inj hu
    show (w.alloc _).cell? (Addr.add ⟨w.heap.size, 0, none⟩ 0) = _
    rw [add_plain, blk_cell (blk_new w _) 0, hn]
    rfl
theorem RowI.below {w w' : World} {base : Nat} {A : Option Addr} {n : Nat} (h : RowI w base A n) (hb : Below w.heap.size w w') : RowI w' base A n := by
  rcases h with h0 | ⟨h', cells', rfl, h1, h2, h3⟩
  · exact .inl h0
  · exact .inr ⟨h', _, rfl, h1, (hb.block _ (blk_lt h2)).trans h2, h3⟩
theorem Spo.one {w : World} {base : Nat} {A : Option Addr} {m c : Nat} {r : Prg} (hn : r.length = m) (h : RowI w base A m) (hb : base ≤ w.heap.size) :
    Spo (w.alloc (.cells #[.slice A m c] 47 (0, 0))) base (.slice (some ⟨w.heap.size, 0, none⟩) 1 1) [r] := by
  refine .inr ⟨w.heap.size, 1, _, rfl, hb, blk_new w _, fun i hi => ?_⟩
  match i, hi with
  | 0, _ => exact ⟨A, c, by show some (Value.slice A m c) = some (Value.slice A r.length c); rw [hn], by show RowI _ _ _ r.length; rw [hn]; exact h.below (below_alloc (Below.refl _ _) _)⟩
section
variable {m : Nat} {A : Option Addr} {c : Nat} {l : Prg} {w : World} (hn : l.length = m) (hC : Kd.C k72 w A m l) (hc : m ≤ c) {k : Nat}
include hn hC hc
theorem pg_valid {v : Bool} (h : narcissusref02_Valid.f k l = some v) : Calls Tryz.prog 27 #[.slice A m c] w fun e w' => e = .returned (.bool v) ∧ Below w.heap.size w w' := by
  subst hn; exact narcissusref02_Valid.calls k A c l v w hC hc h
theorem pg_regs {v : Int} (h : narcissusref02_Regs.f k l = some v) : Calls Tryz.prog 35 #[.slice A m c] w fun e w' => e = .returned (.int .i64 v) ∧ Below w.heap.size w w' := by
  subst hn; exact narcissusref02_Regs.calls k A c l v w hC hc h
theorem pg_bear {L : Prg} {b : Int} (h : ring_Bearer.f k l = some (L, b)) : Calls Tryz.prog 33 #[.slice A m c] w fun e w' => ∃ v0_ : Value, e = .returned (.tuple #[v0_, .int .i64 b]) ∧ Kd.R k72 72 w' w.heap.size (fun _ => True) v0_ L ∧ Below w.heap.size w w' := by
  subst hn; exact ring_Bearer.calls k A c l L b w hC hc h
end
theorem pg_small {m : Nat} {A : Option Addr} {c : Nat} {l : Prg} {w : World} (hn : l.length = m) (hC : Kd.C k72 w A m l) (hc : m ≤ c) {k : Nat} {v : Bool} {most : Int} (h : narcissusref07_Small.f k most [l] = some v) :
    Calls Tryz.prog 10 #[.int .i64 most, .slice (some ⟨w.heap.size, 0, none⟩) 1 1] (w.alloc (.cells #[.slice A m c] 47 (0, 0))) fun e w' => e = .returned (.bool v) ∧ Drawn0 (w.alloc (.cells #[.slice A m c] 47 (0, 0))) w' :=
  tg_small (m := 1) rfl (one_row hn hC hc) (Nat.le_refl 1) h
end Go.Proofs.YtocoamgbpoommaaGreatDoor.C
end
section
namespace Go.Proofs.YtocoamgbpoommaaGreatDoor.C
open Go.RowKit Go.Proofs.YtocoamgbpoommaaGreatDoorW.PrintWords Go.Proofs.YtocoamgbpoommaaGreatDoorW.PrintLast Go.Proofs.YtocoamgbpoommaaGreatDoorW.PrintMore
open Go.Proofs.YtocoamgbpoommaaGreatDoor.Plain (Tr OKP runM later)
set_option linter.unusedVariables false
set_option linter.unusedSimpArgs false
theorem after_count (p : Prg) : ∀ (k : Nat) (a : Int) (r : Plain.Rg), (Plain.after p k a r).2.2.1 ≤ k
  | 0, _, _ => Nat.le_refl _
  | k + 1, a, r => by
    rw [Plain.after]
    split
    · exact Nat.zero_le _
    · split
      · exact Nat.zero_le _
      · rename_i q _
        have := after_count p k (a + q.1) q.2
        show (Plain.after p k (a + q.1) q.2).2.2.1 + 1 ≤ k + 1
        omega
theorem Run_of (w : World) (m x : Value) (p : Prg) (t : Tr) (k : Nat) (K : Int) (hK : K = ((k : Nat) : Int)) (hm : MachAt w m p) (hx : Nd w t x) (hz : t.size ≤ 2000000) (hp : OKP p) (hk : k ≤ 1000000000) :
    Calls Tryz.prog 29 #[m, x, .int .i64 K] w (Ran w (runM p t k)) := by
  subst hK; exact Run_calls w m x p t k hm hx hz hp hk
end Go.Proofs.YtocoamgbpoommaaGreatDoor.C
end
section
namespace Go.Proofs.YtocoamgbpoommaaGreatDoor.C
open Go.RowKit Go.Proofs.YtocoamgbpoommaaGreatDoorW.PrintWords Go.Proofs.YtocoamgbpoommaaGreatDoorW.PrintLast Go.Proofs.YtocoamgbpoommaaGreatDoorW.PrintMore
open Go.Proofs.YtocoamgbpoommaaGreatDoor.Plain (Tr dec bl OKP codeL codeT codeT_size runM ValidT)
set_option linter.unusedVariables false
set_option linter.unusedSimpArgs false
theorem pg_coded {m : Nat} {A : Option Addr} {c : Nat} {l : Prg} {w : World} (hn : l.length = m) (hC : Kd.C k72 w A m l) (hc : m ≤ c) (hp : OKP l) (hz : (codeL l).length ≤ 2000000) :
    Calls Tryz.prog 26 #[.slice A m c] w fun e w' => ∃ v, e = .returned (.tuple #[v, .bool true]) ∧ Nd w' (codeT l) v ∧ Below w.heap.size w w' := by
  subst hn; exact Coded_calls A c l w hC hc hp hz
theorem pg_load {m : Nat} {A : Option Addr} {c : Nat} {l : Prg} {w : World} (hn : l.length = m) (hC : Kd.C k72 w A m l) (hp : OKP l) :
    Calls Tryz.prog 28 #[.slice A m c] w fun e w' => ∃ v, e = .returned v ∧ MachAt w' v l ∧ Below w.heap.size w w' := by
  subst hn; exact Load_calls w A c l hC hp
set_option maxHeartbeats 8000000 in
set_option maxRecDepth 100000 in
theorem bears_out (A : Option Addr) (c : Nat) (l : Prg) (m : Nat) (x : ByteArray) (w : World) (hL : LaidW w) (hC : Kd.C k72 w A m l) (hcm : m ≤ c) (hn : l.length = m) (K : Nat)
    (hg : (narcissusref07_Small.f K 20000 [l] = some false) ∨ (narcissusref07_Small.f K 20000 [l] = some true ∧ (x.size : Int) > 20000)
      ∨ (narcissusref07_Small.f K 20000 [l] = some true ∧ ¬ (x.size : Int) > 20000 ∧ narcissusref02_Valid.f K l = some false)
      ∨ (narcissusref07_Small.f K 20000 [l] = some true ∧ ¬ (x.size : Int) > 20000 ∧ narcissusref02_Valid.f K l = some true ∧ narcissusref01_Valid.f 5000000 x = some false)
      ∨ (narcissusref07_Small.f K 20000 [l] = some true ∧ ¬ (x.size : Int) > 20000 ∧ narcissusref02_Valid.f K l = some true ∧ narcissusref01_Valid.f 5000000 x = some true ∧ ring_Bearer.f K l = some ([], 8) ∧ narcissusref02_Regs.f K l = some 32)
      ∨ (narcissusref07_Small.f K 20000 [l] = some true ∧ ¬ (x.size : Int) > 20000 ∧ narcissusref02_Valid.f K l = some true ∧ narcissusref01_Valid.f 5000000 x = some true ∧ ring_Bearer.f K l = some ([], 3) ∧ ∃ r : Int, narcissusref02_Regs.f K l = some r ∧ r < 32)) :
    Calls Tryz.prog 9 #[.slice A m c, .string x] w (Yes w) := by
  have HB := Aside0.mk (Below.refl w.heap.size w)
  have HL := Aside0.mk hL
  have HC0 := Aside0.mk hC
  have HCM := Aside0.mk hcm
  have HN := Aside0.mk hn
  clear hL hC hcm
  rcases hg with h3 | ⟨h3, h4⟩ | ⟨h3, h4, h5⟩ | ⟨h3, h4, h5, h6⟩ | ⟨h3, h4, h5, h6, h7, h8⟩ | ⟨h3, h4, h5, h6, h7, r, h8, h9⟩
  case' inl => have HS := Aside0.mk h3; clear h3
  case' inr.inl => have HS := Aside0.mk h3; have t3 : decide (20000 < (x.size : Int)) = true := decide_eq_true h4; clear h3 h4
  case' inr.inr.inl => have HS := Aside0.mk h3; have t3 : decide (20000 < (x.size : Int)) = false := decide_eq_false h4; have HVL := Aside0.mk h5; clear h3 h4 h5
  case' inr.inr.inr.inl => have HS := Aside0.mk h3; have t3 : decide (20000 < (x.size : Int)) = false := decide_eq_false h4; have HVL := Aside0.mk h5; have HV := Aside0.mk h6; clear h3 h4 h5 h6
  case' inr.inr.inr.inr.inl => have HS := Aside0.mk h3; have t3 : decide (20000 < (x.size : Int)) = false := decide_eq_false h4; have HVL := Aside0.mk h5; have HV := Aside0.mk h6; have HTG := Aside0.mk h7; have HRG := Aside0.mk h8; clear h3 h4 h5 h6 h7 h8
  case' inr.inr.inr.inr.inr => have HS := Aside0.mk h3; have t3 : decide (20000 < (x.size : Int)) = false := decide_eq_false h4; have HVL := Aside0.mk h5; have HV := Aside0.mk h6; have HTG := Aside0.mk h7; have HRG := Aside0.mk h8; have t4 : decide (r < 32) = true := decide_eq_true h9; clear h3 h4 h5 h6 h7 h8 h9
  all_goals
    go_enter Tryz.func9, Tryz.ntmps9
    go_wp2_with (first
      | (go_at_call 10; (with_reducible refine (pg_small HN.out HC0.out HCM.out HS.out).mono ?_); rintro e w1 ⟨rfl, ⟨n1, rfl⟩⟩; have HB := Aside0.mk (pw_below_drewN (below_alloc HB.out (.cells #[.slice A m c] 47 (0, 0))) n1))
      | (go_at_call 27; (with_reducible refine (pg_valid HN.out (Kd.C_below HC0.out HB.out) HCM.out HVL.out).mono ?_); rintro e w2 ⟨rfl, hb2⟩; have HB := Aside0.mk (below_then HB.out HB.out.size hb2); clear hb2)
      | (go_at_call 20; (with_reducible refine (narcissusref01_Valid.calls 5000000 x _ _ HV.out).mono ?_); rintro e w3 ⟨rfl, n3, rfl⟩; have HB := Aside0.mk (pw_below_drewN HB.out n3))
      | (go_at_call 33; (with_reducible refine (pg_bear HN.out (Kd.C_below HC0.out HB.out) HCM.out HTG.out).mono ?_); rintro e' w4 ⟨vl, rfl, hs, hb4⟩; have HB := Aside0.mk (below_then HB.out HB.out.size hb4); clear hs hb4)
      | (go_at_call 35; (with_reducible refine (pg_regs HN.out (Kd.C_below HC0.out HB.out) HCM.out HRG.out).mono ?_); rintro e' w5 ⟨rfl, hb5⟩; have HB := Aside0.mk (below_then HB.out HB.out.size hb5); clear hb5)
      | (go_at_call 11; (with_reducible refine (awake_calls _ (HL.out.below HB.out)).mono ?_); rintro e w9 ⟨rfl, hb⟩; have HB := Aside0.mk (below_then HB.out HB.out.size hb); clear hb))
    go_ret
    exact ⟨rfl, HB.out⟩
end Go.Proofs.YtocoamgbpoommaaGreatDoor.C
end
section
namespace Go.Proofs.YtocoamgbpoommaaGreatDoor.C
open Go.RowKit Go.Proofs.YtocoamgbpoommaaGreatDoorW.PrintWords Go.Proofs.YtocoamgbpoommaaGreatDoorW.PrintLast Go.Proofs.YtocoamgbpoommaaGreatDoorW.PrintMore
open Go.Proofs.YtocoamgbpoommaaGreatDoor.Plain (Tr dec bl OKP codeL codeT codeT_size runM ValidT)
set_option linter.unusedVariables false
set_option linter.unusedSimpArgs false
set_option maxHeartbeats 16000000 in
set_option maxRecDepth 100000 in
theorem bears_ok (A : Option Addr) (c : Nat) (l : Prg) (m : Nat) (x : ByteArray) (w : World) (hL : LaidW w) (hC : Kd.C k72 w A m l) (hcm : m ≤ c) (hn : l.length = m) (K : Nat)
    (hs : narcissusref07_Small.f K 20000 [l] = some true) (h : ¬ (x.size : Int) > 20000) (hvl : narcissusref02_Valid.f K l = some true) (hv : ValidT x) (D : Prg) (d : Nat) (hd : D.length = d) (hbe : ring_Bearer.f K l = some (D, 0)) (r : Int) (hrg : narcissusref02_Regs.f K l = some r) (hr32 : r < 32)
    (hokl : OKP l) (hok : OKP D) (hz : (codeL D).length ≤ 2000000)
    (hg : 2000000 < 1 + (codeT D).size + (dec (bl x)).size ∨ (1 + (codeT D).size + (dec (bl x)).size ≤ 2000000 ∧ ∃ (T : Tr) (n : Nat) (B : Tr) (q : Nat),
      (runM l (dec (bl x)) 20000 = (T, n, 0) ∧ 2000000 < 1 + (codeT D).size + T.size ∧ runM D (dec (bl x)) 20022 = (B, q, 3)) ∨ (runM l (dec (bl x)) 20000 = (T, n, 0) ∧ 1 + (codeT D).size + T.size ≤ 2000000 ∧ q = n + 22 ∧ B = .cons (codeT D) T ∧ runM D (dec (bl x)) 20022 = (B, q, 0))
      ∨ (runM l (dec (bl x)) 20000 = (T, n, 7) ∧ runM D (dec (bl x)) 20022 = (B, q, 3)) ∨ (runM l (dec (bl x)) 20000 = (T, n, 7) ∧ runM D (dec (bl x)) 20022 = (B, q, 7)) ∨ (runM l (dec (bl x)) 20000 = (T, n, 3) ∧ runM D (dec (bl x)) 20022 = (B, q, 3)))) :
    Calls Tryz.prog 9 #[.slice A m c, .string x] w (Yes w) := by
  have t1 : decide (20000 < (x.size : Int)) = false := decide_eq_false h
  have t2 : (r == 32) = false := beq_eq_false_iff_ne.2 (by omega)
  have hzx : (dec (bl x)).size = x.size := by rw [← Tr.enc_length, Plain.enc_dec hv.2]; exact Array.length_toList
  have hzc : (codeT D).size ≤ 2000000 := by rw [codeT_size hok]; exact hz
  have hIT : Plain.IsT x.data.toList ∧ x.size ≤ 100000000 := ⟨hv.2, by omega⟩
  have hcd := fun (A : Option Addr) (c : Nat) (w : World) (hC : Kd.C k72 w A d D) (hc : d ≤ c) => pg_coded (c := c) hd hC hc hok hz
  have hsz := run_size hokl (show (dec (bl x)).size ≤ 2000000 by omega) 20000
  rw [show (bl x) = x.data.toList from rfl] at hg hzx hsz
  generalize hT : dec x.data.toList = X at *
  generalize codeT D = C at *
  have HX : Aside0 (X.size ≤ 2000000) := ⟨by omega⟩
  have HCZ : Aside0 (C.size ≤ 2000000 ∧ C.size ≤ 1000000000000) := ⟨hzc, by omega⟩
  have HT := Aside0.mk hT
  have HB := Aside0.mk (Below.refl w.heap.size w)
  have HL := Aside0.mk hL
  have HC0 := Aside0.mk hC
  have HCM := Aside0.mk hcm
  have HN := Aside0.mk hn
  have HD := Aside0.mk hd
  have HS := Aside0.mk hs
  have HVL := Aside0.mk hvl
  have HV := Aside0.mk (refValid_yes hv)
  have HTG := Aside0.mk hbe
  have HRG := Aside0.mk hrg
  have HOKL := Aside0.mk hokl
  have HOK := Aside0.mk hok
  have HIT := Aside0.mk hIT
  have HCD := Aside0.mk hcd
  have hx1 : (X.size : Int) ≤ 20000 := by omega
  have hc1 : (C.size : Int) ≤ 2000000 := by omega
  clear hL hC hcm hs h hvl hv hbe hrg hr32 hokl hok hz hzx hzc hIT hcd hT
  rcases hg with h1 | ⟨h1, T, n, B, q, h2 | h2 | h2 | h2 | h2⟩
  case' inl => have t4 : decide (2000000 < 1 + (C.size : Int) + (X.size : Int)) = true := decide_eq_true (by omega); clear h1 hsz
  case' inr.inl => obtain ⟨h3, h4, h5⟩ := h2; rw [h3] at hsz; have hsz2 : T.size ≤ 2000000 := hsz; have t4 : decide (2000000 < 1 + (C.size : Int) + (X.size : Int)) = false := decide_eq_false (by omega); have t5 : decide (2000000 < 1 + (C.size : Int) + (T.size : Int)) = true := decide_eq_true (by omega); have hT1 : (T.size : Int) ≤ 2000000 := (by omega); have HR1 := Aside0.mk h3; have HR2 := Aside0.mk h5; clear h1 h3 h4 h5 hsz hsz2
  case' inr.inr.inl => obtain ⟨h3, h4, h5, h6, h7⟩ := h2; rw [h3] at hsz; have hsz2 : T.size ≤ 2000000 := hsz; have t4 : decide (2000000 < 1 + (C.size : Int) + (X.size : Int)) = false := decide_eq_false (by omega); have t5 : decide (2000000 < 1 + (C.size : Int) + (T.size : Int)) = false := decide_eq_false (by omega); have t6 : ((q : Int) == (n : Int) + 22) = true := beq_iff_eq.2 (by omega); have hT1 : (T.size : Int) ≤ 2000000 := (by omega); have HTZ : Aside0 (T.size ≤ 1000000000000) := ⟨by omega⟩; have HBZ : Aside0 (B.size ≤ 2000000) := ⟨by rw [h6]; exact h4⟩; have HBE := Aside0.mk h6; have HR1 := Aside0.mk h3; have HR2 := Aside0.mk h7; have hn1 : (n : Int) ≤ 1000000 := (by have := after_count l 20000 0 (Plain.init X); have e : (runM l X 20000).2.1 ≤ 20000 := (by unfold runM; dsimp only; split <;> (first | (split <;> dsimp only <;> omega) | (dsimp only; omega))); rw [h3] at e; have : n ≤ 20000 := e; omega); clear h1 h3 h4 h5 h6 h7 hsz hsz2
  case' inr.inr.inr.inl => obtain ⟨h3, h5⟩ := h2; have t4 : decide (2000000 < 1 + (C.size : Int) + (X.size : Int)) = false := decide_eq_false (by omega); have HR1 := Aside0.mk h3; have HR2 := Aside0.mk h5; clear h1 h3 h5 hsz
  case' inr.inr.inr.inr.inl => obtain ⟨h3, h5⟩ := h2; have t4 : decide (2000000 < 1 + (C.size : Int) + (X.size : Int)) = false := decide_eq_false (by omega); have HR1 := Aside0.mk h3; have HR2 := Aside0.mk h5; clear h1 h3 h5 hsz
  case' inr.inr.inr.inr.inr => obtain ⟨h3, h5⟩ := h2; have t4 : decide (2000000 < 1 + (C.size : Int) + (X.size : Int)) = false := decide_eq_false (by omega); have HR1 := Aside0.mk h3; have HR2 := Aside0.mk h5; clear h1 h3 h5 hsz
  all_goals
    go_enter Tryz.func9, Tryz.ntmps9
    go_wp2_with (first
      | (go_at_call 10; (with_reducible refine (pg_small HN.out HC0.out HCM.out HS.out).mono ?_); rintro e w1 ⟨rfl, ⟨n1, rfl⟩⟩; have HB := Aside0.mk (pw_below_drewN (below_alloc HB.out (.cells #[.slice A m c] 47 (0, 0))) n1))
      | (go_at_call 27; (with_reducible refine (pg_valid HN.out (Kd.C_below HC0.out HB.out) HCM.out HVL.out).mono ?_); rintro e w2 ⟨rfl, hb2⟩; have HB := Aside0.mk (below_then HB.out HB.out.size hb2); clear hb2)
      | (go_at_call 20; (with_reducible refine (narcissusref01_Valid.calls 5000000 x _ _ HV.out).mono ?_); rintro e w3 ⟨rfl, n3, rfl⟩; have HB := Aside0.mk (pw_below_drewN HB.out n3))
      | (go_at_call 33; (with_reducible refine (pg_bear HN.out (Kd.C_below HC0.out HB.out) HCM.out HTG.out).mono ?_); rintro e' w4 ⟨vl, rfl, hs, hb4⟩; obtain ⟨Ae, ce, hve, hce, hCe⟩ := Kd.R_reads hs; rw [HD.out] at hve hce hCe; subst hve; have HE := Aside0.mk hCe; have HCE := Aside0.mk hce; have HB := Aside0.mk (below_then HB.out HB.out.size hb4); clear hs hb4 hCe hce)
      | (go_at_call 26; (with_reducible refine (HCD.out Ae ce _ HE.out HCE.out).mono ?_); rintro e w5 ⟨vc, rfl, hnc, hb5⟩; have HNC := Aside0.mk hnc; have HE := Aside0.mk (Kd.C_below HE.out hb5); have HB := Aside0.mk (below_then HB.out HB.out.size hb5); clear hnc hb5)
      | (go_at_call 35; (with_reducible refine (pg_regs HN.out (Kd.C_below HC0.out HB.out) HCM.out HRG.out).mono ?_); rintro e' w6 ⟨rfl, hb6⟩; have HNC := Aside0.mk (Nd.keep (NK.below hb6) _ _ HNC.out); have HE := Aside0.mk (Kd.C_below HE.out hb6); have HB := Aside0.mk (below_then HB.out HB.out.size hb6); clear hb6)
      | (go_at_call 22; (with_reducible refine (Read_calls x _ HIT.out.1 HIT.out.2).mono ?_); rintro e w7 ⟨vx, rfl, hx, hb7⟩; rw [HT.out] at hx; have HNX := Aside0.mk hx; have HNC := Aside0.mk (Nd.keep (NK.below hb7) _ _ HNC.out); have HE := Aside0.mk (Kd.C_below HE.out hb7); have HB := Aside0.mk (below_then HB.out HB.out.size hb7); clear hx hb7)
      | (go_at_call 25; first | ((with_reducible refine (Size_calls C vc _ HNC.out).mono ?_); rintro e w8 ⟨rfl, rfl⟩) | ((with_reducible refine (Size_calls X vx _ HNX.out).mono ?_); rintro e w8 ⟨rfl, rfl⟩) | ((with_reducible refine (Size_calls T va _ HNA.out).mono ?_); rintro e w8 ⟨rfl, rfl⟩))
      | (go_at_call 28; first
          | ((with_reducible refine (pg_load HN.out (Kd.C_below HC0.out HB.out) HOKL.out).mono ?_); rintro e9 w9 ⟨m1, rfl, hm1, hb9⟩; have HM1 := Aside0.mk hm1; have HNX := Aside0.mk (Nd.keep (NK.below hb9) _ _ HNX.out); have HNC := Aside0.mk (Nd.keep (NK.below hb9) _ _ HNC.out); have HE := Aside0.mk (Kd.C_below HE.out hb9); have HB := Aside0.mk (below_then HB.out HB.out.size hb9); clear hm1 hb9)
          | ((with_reducible refine (pg_load HD.out HE.out HOK.out).mono ?_); rintro e10 w10 ⟨m2, rfl, hm2, hb10⟩; have HM2 := Aside0.mk hm2; have HNX := Aside0.mk (Nd.keep (NK.below hb10) _ _ HNX.out); have HNC := Aside0.mk (Nd.keep (NK.below hb10) _ _ HNC.out); have HNA := Aside0.mk (Nd.keep (NK.below hb10) _ _ HNA.out); have HB := Aside0.mk (below_then HB.out HB.out.size hb10); clear hm2 hb10))
      | (go_at_call 29; first
          | ((with_reducible refine (Run_of _ m1 vx l X 20000 20000 rfl HM1.out HNX.out HX.out HOKL.out (by omega)).mono ?_); rw [HR1.out]; rintro e11 w11 ⟨va, rfl, hna, hb11⟩; have HNA := Aside0.mk hna; have HNX := Aside0.mk (Nd.keep (NK.below hb11) _ _ HNX.out); have HNC := Aside0.mk (Nd.keep (NK.below hb11) _ _ HNC.out); have HE := Aside0.mk (Kd.C_below HE.out hb11); have HB := Aside0.mk (below_then HB.out HB.out.size hb11); clear hna hb11)
          | ((with_reducible refine (Run_of _ m2 vx D X 20022 20022 rfl HM2.out HNX.out HX.out HOK.out (by omega)).mono ?_); rw [HR2.out]; rintro e12 w12 ⟨vb, rfl, hnb, hb12⟩; have HNB := Aside0.mk hnb; have HNA := Aside0.mk (Nd.keep (NK.below hb12) _ _ HNA.out); have HNC := Aside0.mk (Nd.keep (NK.below hb12) _ _ HNC.out); have HB := Aside0.mk (below_then HB.out HB.out.size hb12); clear hnb hb12))
      | (go_at_call 23; (with_reducible refine (Cons_calls C T vc va _ HNC.out HNA.out HCZ.out.2 HTZ.out).mono ?_); rintro e w13 ⟨u, rfl, hu, hb13⟩; rw [← HBE.out] at hu; have HU := Aside0.mk hu; have HNB := Aside0.mk (Nd.keep (NK.below hb13) _ _ HNB.out); have HB := Aside0.mk (below_then HB.out HB.out.size hb13); clear hu hb13)
      | (go_at_call 30; (with_reducible refine (Equal_calls B B vb u _ HNB.out HU.out (by have := HBZ.out; omega) (by have := HBZ.out; omega)).mono ?_); rintro e w14 ⟨⟨v14, rfl, hv14⟩, hb14⟩; obtain rfl := hv14.2 rfl; have HB := Aside0.mk (below_then HB.out HB.out.size hb14); clear hb14 hv14)
      | (go_at_call 11; (with_reducible refine (awake_calls _ (HL.out.below HB.out)).mono ?_); rintro e w15 ⟨rfl, hb⟩; have HB := Aside0.mk (below_then HB.out HB.out.size hb); clear hb))
    go_ret
    exact ⟨rfl, HB.out⟩
end Go.Proofs.YtocoamgbpoommaaGreatDoor.C
end
section
namespace Go.Proofs.YtocoamgbpoommaaGreatDoor.C
open Go.RowKit Go.Proofs.YtocoamgbpoommaaGreatDoorW.PrintWords Go.Proofs.YtocoamgbpoommaaGreatDoorW.PrintLast Go.Proofs.YtocoamgbpoommaaGreatDoorW.PrintMore
open Go.Proofs.YtocoamgbpoommaaGreatDoor.Plain (Tr dec bl OKP codeL codeT codeT_size runM ValidT Fits small_has refValidp_tells top_yes bearer_yes bearer_large bearer_regs bearQ madeK FineK bears_run)
set_option linter.unusedVariables false
set_option linter.unusedSimpArgs false
theorem run_ends3 (p : Prg) (x : Tr) (k : Nat) : (∃ t n, runM p x k = (t, n, 0)) ∨ (∃ t n, runM p x k = (t, n, 3)) ∨ ∃ t n, runM p x k = (t, n, 7) := by
  unfold runM
  dsimp only
  split
  · split
    · exact .inl ⟨_, _, rfl⟩
    · exact .inr (.inr ⟨_, _, rfl⟩)
  · exact .inr (.inl ⟨_, _, rfl⟩)
theorem narcissuslaw08_RingBears.calls (A : Option Addr) (c : Nat) (l : Prg) (x : ByteArray) (w : World) (hC : Kd.C k72 w A l.length l) (hc : l.length ≤ c) (hL : LaidW w) (hf : l.length * 48 ≤ 140737488351232 ∧ ∀ i ∈ l, i.f4.size ≤ 140737488351232) :
    Calls Tryz.prog 9 #[.slice A l.length c, .string x] w fun e w' => e = .returned (.bool true) ∧ Below w.heap.size w w' := by
  show Calls _ _ _ _ (Yes w)
  have hz : l.length ≤ 2932031007401 := by have := hf.1; omega
  have hft : Fits l := fun x hx => by have := hf.2 x hx; omega
  have out := bears_out A c l l.length x w hL hC hc rfl 3000000000000
  obtain ⟨v, e3⟩ := small_has 20000 [l] (by simp) (fun p hp => by rw [List.mem_singleton.1 hp]; exact hz) 3000000000000 (by omega)
  cases v with
  | false => exact out (.inl e3)
  | true =>
  by_cases h4 : (x.size : Int) > 20000
  · exact out (.inr (.inl ⟨e3, h4⟩))
  obtain ⟨v, e5, hv⟩ := refValidp_tells l hft 3000000000000 (by omega)
  cases v with
  | false => exact out (.inr (.inr (.inl ⟨e3, h4, e5⟩)))
  | true =>
  replace hv := hv.1 rfl
  by_cases h6 : ValidT x
  · obtain ⟨t, t1, t2, hu, ht⟩ := top_yes hv
    obtain ⟨r1, r2⟩ := ht 3000000000000 (by omega)
    by_cases h31 : t ≤ 31
    · by_cases hfn : OKP (bearQ t l) ∧ FineK (bearQ t l)
      · obtain ⟨b1, b2⟩ := bearer_yes hv h31 hfn 3000000000000 (by omega) r1 r2
        refine bears_ok A c l l.length x w hL hC hc rfl _ e3 h4 e5 h6 (madeK (bearQ t l)) _ rfl b1 t r2 (by omega) hv hfn.2.2.1 hfn.2.2.2 ?_
        by_cases hbig : 2000000 < 1 + (codeT (madeK (bearQ t l))).size + (dec (bl x)).size
        · exact .inl hbig
        · obtain ⟨q1, q2, q3, q4⟩ := bears_run hv t1 hu hfn (dec (bl x)) (by omega) 20000
          refine .inr ⟨by omega, ?_⟩
          rcases run_ends3 l (dec (bl x)) 20000 with ⟨T, n, e⟩ | ⟨T, n, e⟩ | ⟨T, n, e⟩
          · rw [e] at q1 q2
            by_cases hs : 2000000 < 1 + (codeT (madeK (bearQ t l))).size + T.size
            · have h3 := q1 rfl hs
              exact ⟨T, n, _, _, .inl ⟨e, hs, by rw [← h3]⟩⟩
            · exact ⟨T, n, _, _, .inr (.inl ⟨e, by omega, rfl, rfl, q2 rfl (by show 1 + _ + T.size ≤ _; omega)⟩)⟩
          · rw [e] at q3
            have h3 := q3 rfl
            exact ⟨T, n, _, _, .inr (.inr (.inr (.inr ⟨e, by rw [← h3]⟩)))⟩
          · rw [e] at q4
            have h3 := q4 rfl
            rcases run_ends3 (madeK (bearQ t l)) (dec (bl x)) (20000 + 22) with ⟨B, q, e'⟩ | ⟨B, q, e'⟩ | ⟨B, q, e'⟩
            · rw [e'] at h3; exact absurd rfl h3
            · exact ⟨T, n, B, q, .inr (.inr (.inl ⟨e, e'⟩))⟩
            · exact ⟨T, n, B, q, .inr (.inr (.inr (.inl ⟨e, e'⟩)))⟩
      · obtain ⟨b1, b2⟩ := bearer_large hv h31 hfn 3000000000000 (by omega) r1 r2
        exact out (.inr (.inr (.inr (.inr (.inr ⟨e3, h4, e5, refValid_yes h6, b1, t, r2, by omega⟩)))))
    · obtain ⟨b1, b2⟩ := bearer_regs (p := l) (by omega) 3000000000000 r1 r2
      exact out (.inr (.inr (.inr (.inr (.inl ⟨e3, h4, e5, refValid_yes h6, b1, by rw [r2, show t = 32 from by omega]; rfl⟩)))))
  · exact out (.inr (.inr (.inr (.inl ⟨e3, h4, e5, refValid_no h6⟩))))
end Go.Proofs.YtocoamgbpoommaaGreatDoor.C
end
section
namespace Go.Proofs.YtocoamgbpoommaaGreatDoor.Card
open Go.ChangeShapes Go.WideShapes Go.ChangeAt Go.RowKit
open Go.Proofs.YtocoamgbpoommaaGreatDoor.C (LaidW pow10_named)
def L7 : List (String × DataW Unit) := [("math/bits.deBruijn32tab", Rows.laid_math_bits_deBruijn32tab), ("math/bits.deBruijn64tab", Rows.laid_math_bits_deBruijn64tab), ("internal/strconv.uint64pow10", Rows.laid_internal_strconv_uint64pow10), ("unicode/utf8.acceptRanges", Rows.laid_unicode_utf8_acceptRanges), ("strconv.ErrRange", Rows.laid_strconv_ErrRange), ("strconv.ErrSyntax", Rows.laid_strconv_ErrSyntax), ("unicode/utf8.first", Rows.laid_unicode_utf8_first)]
theorem own : ownKnob Tryz.prog.godebug = none := by kernel_rfl
theorem laidOut : laidOutB Tryz.prog = true := by kernel_rfl
theorem star : "*" ++ "errors.errorString" = "*errors.errorString" := by decide
theorem rowErr (u : TypeId) (h : Tryz.prog.typeName? 3 u = some "*errors.errorString") : u = 192 :=
  typeName_ptr_named (nm := "errors.errorString") (by rw [star]; kernel_rfl) (by kernel_rfl) (by decide) u (by rw [star]; exact h)
theorem gRange : Tryz.prog.globalNamed "strconv.ErrRange" = some 4 := by kernel_rfl
theorem gSyntax : Tryz.prog.globalNamed "strconv.ErrSyntax" = some 3 := by kernel_rfl
theorem tRange : (Tryz.prog.globals[4]?).map (·.type) = some 112 := by kernel_rfl
theorem tSyntax : (Tryz.prog.globals[3]?).map (·.type) = some 112 := by kernel_rfl
theorem tPow : (Tryz.prog.globals[5]?).map (·.type) = some 196 := by kernel_rfl
theorem cPow : Tryz.prog.cellsOf 196 = 20 := by kernel_rfl
theorem cU64 : Tryz.prog.cellsOf 161 = 1 := by kernel_rfl
theorem cErr : Tryz.prog.cellsOf 194 = 1 := by kernel_rfl
theorem cStr : Tryz.prog.cellsOf 9 = 1 := by kernel_rfl
theorem plain7 : ∀ W, laidMetH Tryz.prog L7 W = laidMet Tryz.prog L7 W := fun W => MakeChecks.laidMetH_plain _ _ _ (by kernel_rfl)
theorem laidW_of {W : World} (hsh : W.ShapedOpen Tryz.prog) (hH : laidMetH Tryz.prog L7 W) : LaidW W := by
  rw [plain7] at hH
  have h3 := laidMet.tail (laidMet.tail hH)
  have hT : Lib.TabIs Tryz.prog W "internal/strconv.uint64pow10" .u64 Lib.pow10Tab :=
    Lib.tabIs_of_head (k := .u64) (zs := Lib.pow10Tab) pow10_named tPow Tryz.underlying196 Tryz.underlying161 cU64 cPow h3
  have h5 := laidMet.tail (laidMet.tail h3)
  obtain ⟨a0, _, hv0, _⟩ := laid_sentinel h5 gRange tRange Tryz.underlying112 rowErr Tryz.underlying192 Tryz.underlying194 rfl rfl Tryz.underlying9 cErr cStr
  obtain ⟨a1, _, hv1, _⟩ := laid_sentinel (laidMet.tail h5) gSyntax tSyntax Tryz.underlying112 rowErr Tryz.underlying192 Tryz.underlying194 rfl rfl Tryz.underlying9 cErr cStr
  have hm := cell_of_shapedOpen_int (P := Tryz.prog) (g := 0) (t := 3) (k := .i64) (zero := #[.int .i64 0]) hsh (of_decide_eq_true (by kernel_rfl)) (by kernel_rfl) rfl (by kernel_rfl) (by kernel_rfl) Tryz.underlying3
  exact ⟨hm, ⟨_, _, by simpa using World.var?_cell gSyntax hv1 0⟩, ⟨_, _, by simpa using World.var?_cell gRange hv0 0⟩, hT⟩
noncomputable abbrev laidWorld (os : Os) : World := World.laidAll Tryz.prog os L7
set_option maxRecDepth 100000 in
theorem laid_met (os : Os) (args : Array Value) : laidMetH Tryz.prog L7 ((laidWorld os).forCall (fun _ _ => 0) ⟨#[], args, []⟩).memory := by
  rw [plain7]
  exact laidMet_laidAll _ (by kernel_rfl) (by kernel_rfl)
end Go.Proofs.YtocoamgbpoommaaGreatDoor.Card
end
