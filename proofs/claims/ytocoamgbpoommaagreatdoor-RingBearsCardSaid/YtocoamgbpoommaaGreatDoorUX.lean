/- Texts of this claim, together: what the functions return, and what they say in plain words. -/
import Derived.Test.YtocoamgbpoommaaGreatDoorUB
import Derived.Test.YtocoamgbpoommaaGreatDoorUP
import Derived.Test.YtocoamgbpoommaaGreatDoorUW
import Derived.Test.YtocoamgbpoommaaGreatDoorUU
import Derived.Test.YtocoamgbpoommaaGreatDoorUS
import Derived.Test.YtocoamgbpoommaaGreatDoorUL
import Derived.Test.YtocoamgbpoommaaGreatDoorUV
import Derived.Test.YtocoamgbpoommaaGreatDoorUC
import Derived.Test.YtocoamgbpoommaaGreatDoorUF
section
namespace Go.Proofs.YtocoamgbpoommaaGreatDoor.C
open Go.RowKit Go.Proofs.YtocoamgbpoommaaGreatDoorW.PrintWords Go.Proofs.YtocoamgbpoommaaGreatDoorW.PrintLast Go.Proofs.YtocoamgbpoommaaGreatDoorW.PrintMore
attribute [local go_sem] max2_int min2_int max_two min_two max_three min_three max_four min_four
set_option linter.unusedVariables false
set_option linter.unusedSimpArgs false
def narcissusref07_Small.l0 : Nat → Int → List (List (S72)) → Int → Int → Option (Bool)
 | 0, _, _, _, _ => none
 | k + 1, x0, x1, x5, x6 => if x6 < (x1.length : Int) then (if 0 ≤ x6 then (if (wrap64 ((wrap64 (x5 + 1)) + ((rd_L3 x1 x6).length : Int))) > x0 then (some false) else ((narcissusref02_Trees.f k (rd_L3 x1 x6)).bind fun t3 => (narcissusref07_Small.l0 k x0 x1 (wrap64 ((wrap64 ((wrap64 (x5 + 1)) + ((rd_L3 x1 x6).length : Int))) + t3)) (wrap64 (x6 + 1))))) else (none)) else (some (decide (x5 ≤ x0)))
def narcissusref07_Small.f (k : Nat) (a0 : Int) (l1 : List (List (S72))) : Option (Bool) := narcissusref07_Small.l0 k a0 l1 0 0
set_option maxHeartbeats 8000000 in
set_option maxRecDepth 100000 in
theorem narcissusref07_Small.calls (k : Nat) (a0 : Int) (A1 : Option Addr) (c1 : Nat) (l1 : List (List (S72))) (r : Bool) (w : World) (hr1 : Kd.C (Kd.slice 72 k72) w A1 l1.length l1) (hc1 : l1.length ≤ c1) (h : narcissusref07_Small.f k a0 l1 = some r) :
  Calls Tryz.prog 10 #[.int .i64 a0, .slice A1 l1.length c1] w fun e w' => e = .returned (.bool r) ∧ Drawn0 w w' := by
 have HR1 := Aside0.mk hr1
 have HC1 := Aside0.mk hc1
 clear hr1 hc1
 have H : (narcissusref07_Small.l0 k a0 l1 0 0) = some r := h
 clear h
 have H' := Aside0.mk H
 clear H
 go_enter Tryz.func10, Tryz.ntmps10
 go_wp2
 go_loopg [5, 6] k (fun kq v5 v6 w' => ∃ (x5_1 : Int) (x6_1 : Int), v5 = .int .i64 x5_1 ∧ v6 = .int .i64 x6_1 ∧ Aside0 (narcissusref07_Small.l0 kq a0 l1 x5_1 x6_1 = some r) ∧ Aside0 (kq ≤ k) ∧ Drawn0 w w')
 case atStart => exact ⟨(0), (0), (by first | rfl | (simp; done) | (simp [*]; done)), (by first | rfl | (simp; done) | (simp [*]; done)), H', ⟨Nat.le_refl _⟩, by repeat (first | exact Drawn0.refl _ | apply Drawn0.step)⟩
 case round =>
  clear H'
  try clear c1
  try clear p2
  obtain ⟨x5_1, x6_1, rfl, rfl, HA, HK1, ⟨m1, rfl⟩⟩ := hrel
  cases gk with
  | zero => exact absurd HA.out (by simp [narcissusref07_Small.l0])
  | succ k1 =>
   have H := HA.out
   clear HA
   simp only [narcissusref07_Small.l0] at H
   by_cases c3 : x6_1 < (l1.length : Int)
   ·rw [if_pos c3] at H
    have c3b0 : decide (x6_1 < (l1.length : Int)) = true := decide_eq_true c3
    clear c3
    by_cases c4 : 0 ≤ x6_1
    ·rw [if_pos c4] at H
     have c4b0 : decide (0 ≤ x6_1) = true := decide_eq_true c4
     clear c4
     by_cases c5 : (wrap64 ((wrap64 (x5_1 + 1)) + ((rd_L3 l1 x6_1).length : Int))) > a0
     ·rw [if_pos c5] at H
      have c5b0 : decide (a0 < (wrap64 ((wrap64 (x5_1 + 1)) + ((rd_L3 l1 x6_1).length : Int)))) = true := decide_eq_true c5
      clear c5
      obtain rfl := Option.some.inj H
      have p1 : 0 ≤ (x6_1 : Int) := of_decide_eq_true (by first | (with_reducible assumption) | assumption)
      have q1 : x6_1 < (l1.length : Int) := of_decide_eq_true (by first | (with_reducible assumption) | assumption)
      obtain ⟨ad1, A1_0, c1_0, e1, hx1_0, hl1_0, hi1_0⟩ := at_L3 HR1.out x6_1 p1 q1
      cases e1
      have HR1_0 := Aside0.mk hi1_0
      have HC1_0 := Aside0.mk hl1_0
      clear hi1_0 hl1_0
      replace p1 := eq_true p1
      replace q1 := eq_true q1
      go_wp2
      go_ret
      exact ⟨by first | rfl | (simp; done) | (simp [*]; done) | (simp [show ∀ l : List UInt8, (l != []) = !l.isEmpty from fun l => by cases l <;> rfl]; done), by repeat (first | exact Drawn0.refl _ | apply Drawn0.step)⟩
     ·rw [if_neg c5] at H
      have c5b0 : decide (a0 < (wrap64 ((wrap64 (x5_1 + 1)) + ((rd_L3 l1 x6_1).length : Int)))) = false := decide_eq_false c5
      clear c5
      replace H := Option.bind_eq_some_iff.mp H
      obtain ⟨t3, A60, H⟩ := H
      replace H : (narcissusref07_Small.l0 k1 a0 l1 (wrap64 ((wrap64 ((wrap64 (x5_1 + 1)) + ((rd_L3 l1 x6_1).length : Int))) + t3)) (wrap64 (x6_1 + 1))) = some r := H
      have A6 := Aside0.mk A60
      clear A60
      have H' := Aside0.mk H
      clear H
      have p1 : 0 ≤ (x6_1 : Int) := of_decide_eq_true (by first | (with_reducible assumption) | assumption)
      have q1 : x6_1 < (l1.length : Int) := of_decide_eq_true (by first | (with_reducible assumption) | assumption)
      obtain ⟨ad1, A1_0, c1_0, e1, hx1_0, hl1_0, hi1_0⟩ := at_L3 HR1.out x6_1 p1 q1
      cases e1
      have HR1_0 := Aside0.mk hi1_0
      have HC1_0 := Aside0.mk hl1_0
      clear hi1_0 hl1_0
      replace p1 := eq_true p1
      replace q1 := eq_true q1
      have p2 : 0 ≤ (x6_1 : Int) := of_decide_eq_true (by first | (with_reducible assumption) | assumption)
      have q2 : x6_1 < (l1.length : Int) := of_decide_eq_true (by first | (with_reducible assumption) | assumption)
      obtain ⟨ad2, A2_0, c2_0, e2, hx2_0, hl2_0, hi2_0⟩ := at_L3 HR1.out x6_1 p2 q2
      obtain rfl : ad1 = ad2 := (by injection e2)
      have HR2_0 := Aside0.mk hi2_0
      have HC2_0 := Aside0.mk hl2_0
      clear hi2_0 hl2_0
      replace p2 := eq_true p2
      replace q2 := eq_true q2
      have ea_ := Option.some.inj (hx1_0.symm.trans hx2_0)
      injection ea_ with ea_ en_ ec_
      subst ea_
      subst ec_
      clear en_
      go_wp2_with (first | ((with_reducible refine gate_callee (f := 36) rfl ?_); refine goesL_ (some 29) rfl rfl Tryz.func36 (by kernel_rfl) rfl #[.slice A1_0 (rd_L3 l1 x6_1).length c1_0] rfl (by (try simp only [List.map_toArray, List.map_cons, List.map_nil]); first | done | rfl | (simp only [List.length_drop, List.length_take]; rfl)) ?_; (with_reducible refine (narcissusref02_Trees.calls k1 _ _ (rd_L3 l1 x6_1) t3 _ ?side1 ?side2 A6.out).mono ?_); (case side1 => repeat (first | exact HR2_0.out | (with_reducible refine Kd.C_alloc ?_ _) | (with_reducible refine Kd.C_drewN ?_ _) | (with_reducible refine Kd.C_drew ?_))); (case side2 => exact HC2_0.out); rintro e w' ⟨rfl, ⟨nd, rfl⟩⟩; refine ⟨_, rfl, ?_⟩))
      go_roundg k1
      case measure => have := HK1.out; omega
      case rel => exact ⟨(wrap64 ((wrap64 ((wrap64 (x5_1 + 1)) + ((rd_L3 l1 x6_1).length : Int))) + t3)), (wrap64 (x6_1 + 1)), (by first | rfl | (simp; done) | (simp [*]; done)), (by first | rfl | (simp; done) | (simp [*]; done)), H', ⟨by have := HK1.out; omega⟩, by repeat (first | exact Drawn0.refl _ | apply Drawn0.step)⟩
    ·rw [if_neg c4] at H
     exact absurd H (by simp)
   ·rw [if_neg c3] at H
    have c3b0 : decide (x6_1 < (l1.length : Int)) = false := decide_eq_false c3
    clear c3
    obtain rfl := Option.some.inj H
    go_wp2
    go_ret
    exact ⟨by first | rfl | (simp; done) | (simp [*]; done) | (simp [show ∀ l : List UInt8, (l != []) = !l.isEmpty from fun l => by cases l <;> rfl]; done), by repeat (first | exact Drawn0.refl _ | apply Drawn0.step)⟩
end Go.Proofs.YtocoamgbpoommaaGreatDoor.C
end
section
namespace Go.Proofs.YtocoamgbpoommaaGreatDoor.C
open Go.RowKit Go.Proofs.YtocoamgbpoommaaGreatDoorW.PrintWords Go.Proofs.YtocoamgbpoommaaGreatDoorW.PrintLast Go.Proofs.YtocoamgbpoommaaGreatDoorW.PrintMore
set_option linter.unusedVariables false
set_option linter.unusedSimpArgs false
def RowI (w : World) (base : Nat) (A : Option Addr) (n : Nat) : Prop := n = 0 ∨ ∃ h cells, A = some ⟨h, 0, none⟩ ∧ base ≤ h ∧ w.heap[h]? = some (.cells cells 72 (0, 0)) ∧ n * 5 ≤ cells.size
def RowsI (w : World) (base : Nat) (cur : Array Value) (ls : List Nat) : Prop := ∀ i (h : i < ls.length), ∃ A c, cur[i]? = some (.slice A ls[i] c) ∧ RowI w base A ls[i]
theorem RowI.of_R {w : World} {base : Nat} {ok : Nat → Prop} {v : Value} {p : Prg} (h : Kd.R k72 72 w base ok v p) : ∃ A c, v = .slice A p.length c ∧ RowI w base A p.length := by
  obtain ⟨_, inner, ho, _⟩ := h
  obtain ⟨h1, h2⟩ := ho
  rcases h2 with ⟨rfl, hn⟩ | ⟨g, cap, cur, rfl, hg, hh, hc, _, hs, _⟩
  · rw [hn]; exact ⟨none, 0, rfl, .inl rfl⟩
  · refine ⟨_, cap, rfl, .inr ⟨g, cur, rfl, hg, hh, ?_⟩⟩
    rw [hs]
    exact Nat.mul_le_mul_right _ hc
theorem RowI.set {w : World} {base h : Nat} {cells : Array Value} {A : Option Addr} {n : Nat} (hr : RowI w base A n) (hh : w.heap[h]? = some (.cells cells 72 (0, 0))) (j : Nat) (u : Value) : RowI (w.setCell ⟨h, j, none⟩ u) base A n := by
  rcases hr with h0 | ⟨h', cells', rfl, h1, h2, h3⟩
  · exact .inl h0
  · by_cases e : h' = h
    · subst e
      exact .inr ⟨h', _, rfl, h1, blk_set h2 j u, by simpa using h3⟩
    · exact .inr ⟨h', _, rfl, h1, blk_far h2 (p := ⟨h, j, none⟩) e u, h3⟩
theorem RowsI.set {w : World} {base h : Nat} {cells cur : Array Value} {ls : List Nat} (hr : RowsI w base cur ls) (hh : w.heap[h]? = some (.cells cells 72 (0, 0))) (j : Nat) (u : Value) : RowsI (w.setCell ⟨h, j, none⟩ u) base cur ls := fun i hi => by
  obtain ⟨A, c, h1, h2⟩ := hr i hi
  exact ⟨A, c, h1, h2.set hh j u⟩
def Spo (w : World) (base : Nat) (v : Value) (L : List Prg) : Prop :=
  (v = .slice none 0 0 ∧ L = []) ∨ ∃ g cap cur, v = .slice (some ⟨g, 0, none⟩) L.length cap ∧ base ≤ g ∧ w.heap[g]? = some (.cells cur 47 (0, 0)) ∧ RowsI w base cur (L.map List.length)
theorem RowsI.below {w w' : World} {base : Nat} {cur : Array Value} {ls : List Nat} (h : RowsI w base cur ls) (hb : Below w.heap.size w w') : RowsI w' base cur ls := fun i hi => by
  obtain ⟨A, c, h1, h2⟩ := h i hi
  refine ⟨A, c, h1, ?_⟩
  rcases h2 with h0 | ⟨h', cells', rfl, h1, h2, h3⟩
  · exact .inl h0
  · exact .inr ⟨h', _, rfl, h1, (hb.block _ (blk_lt h2)).trans h2, h3⟩
theorem Spo.below {w w' : World} {base : Nat} {v : Value} {L : List Prg} (h : Spo w base v L) (hb : Below w.heap.size w w') : Spo w' base v L := by
  rcases h with h | ⟨g, cap, cur, rfl, hg, hh, hr⟩
  · exact .inl h
  · exact .inr ⟨g, cap, cur, rfl, hg, (hb.block _ (blk_lt hh)).trans hh, hr.below hb⟩
section
variable {m : Nat} {A : Option Addr} {c : Nat} {l : List Prg} {w : World} (hn : l.length = m) (hC : Kd.C (Kd.slice 72 k72) w A m l) (hc : m ≤ c) {k : Nat}
include hn hC hc
theorem tg_small {v : Bool} {most : Int} (h : narcissusref07_Small.f k most l = some v) : Calls Tryz.prog 10 #[.int .i64 most, .slice A m c] w fun e w' => e = .returned (.bool v) ∧ Drawn0 w w' := by
  subst hn; exact narcissusref07_Small.calls k most A c l v w hC hc h
end
end Go.Proofs.YtocoamgbpoommaaGreatDoor.C
end
section
namespace Go.Proofs.YtocoamgbpoommaaGreatDoor.Plain
open Go.Proofs.YtocoamgbpoommaaGreatDoor.C
open Go.RowKit Go.Proofs.YtocoamgbpoommaaGreatDoorW.PrintWords Go.Proofs.YtocoamgbpoommaaGreatDoorW.PrintLast Go.Proofs.YtocoamgbpoommaaGreatDoorW.PrintMore
set_option linter.unusedVariables false
set_option linter.unusedSimpArgs false
def later (m : Nat) (q : Tr × Nat × Int) : Tr × Nat × Int := (q.1, if q.2.2 = 0 then q.2.1 + m else 0, q.2.2)
end Go.Proofs.YtocoamgbpoommaaGreatDoor.Plain
end
section
namespace Go.Proofs.YtocoamgbpoommaaGreatDoor.Plain
open Go.Proofs.YtocoamgbpoommaaGreatDoor.C
open Go.RowKit Go.Proofs.YtocoamgbpoommaaGreatDoorW.PrintWords Go.Proofs.YtocoamgbpoommaaGreatDoorW.PrintLast Go.Proofs.YtocoamgbpoommaaGreatDoorW.PrintMore
set_option linter.unusedVariables false
set_option linter.unusedSimpArgs false
theorem trees_any (p : List Ins) (hp : p.length ≤ 2932031007402) : ∀ (d k i : Nat) (s : Int), p.length - i = d → i ≤ p.length → d < k → ∃ v, narcissusref02_Trees.l0 k p s (i : Int) = some v
  | d, k, i, s, hd, hi, hk => by
    obtain ⟨k, rfl⟩ : ∃ m, k = m + 1 := ⟨k - 1, by omega⟩
    rw [narcissusref02_Trees.l0]
    by_cases h : i < p.length
    · rw [if_pos (by omega), if_pos (by omega), wrap_small (x := (i : Int) + 1) (by omega) (by omega), show (i : Int) + 1 = ((i + 1 : Nat) : Int) from rfl]
      exact trees_any p hp (p.length - (i + 1)) k (i + 1) _ rfl (by omega) (by omega)
    · rw [if_neg (by omega)]; exact ⟨_, rfl⟩
  termination_by d => d
theorem small_any (most : Int) (l : List (List Ins)) (hl : l.length ≤ 1000) (hz : ∀ p ∈ l, p.length ≤ 2932031007401) : ∀ (d k i : Nat) (s : Int), l.length - i = d → i ≤ l.length → d + 2932031007402 < k →
    ∃ v, narcissusref07_Small.l0 k most l s (i : Int) = some v
  | d, k, i, s, hd, hi, hk => by
    obtain ⟨k, rfl⟩ : ∃ m, k = m + 1 := ⟨k - 1, by omega⟩
    rw [narcissusref07_Small.l0]
    by_cases h : i < l.length
    · rw [if_pos (by omega), if_pos (by omega), rd_prg l i h]
      have hzi := hz l[i] (List.getElem_mem h)
      split
      · exact ⟨_, rfl⟩
      · obtain ⟨v, e⟩ : ∃ v, narcissusref02_Trees.f k l[i] = some v := trees_any l[i] (by omega) l[i].length k 0 0 rfl (by omega) (by omega)
        rw [e, Option.bind_some, wrap_small (x := (i : Int) + 1) (by omega) (by omega), show (i : Int) + 1 = ((i + 1 : Nat) : Int) from rfl]
        exact small_any most l hl hz (l.length - (i + 1)) k (i + 1) _ rfl (by omega) (by omega)
    · rw [if_neg (by omega)]; exact ⟨_, rfl⟩
  termination_by d => d
theorem small_has (most : Int) (l : List (List Ins)) (hl : l.length ≤ 1000) (hz : ∀ p ∈ l, p.length ≤ 2932031007401) (k : Nat) (hk : 2932031010000 ≤ k) : ∃ v, narcissusref07_Small.f k most l = some v :=
  small_any most l hl hz l.length k 0 0 rfl (by omega) (by omega)
end Go.Proofs.YtocoamgbpoommaaGreatDoor.Plain
end
section
namespace Go.Proofs.YtocoamgbpoommaaGreatDoor.Plain
open Go.Proofs.YtocoamgbpoommaaGreatDoor.C
set_option linter.unusedVariables false
set_option linter.unusedSimpArgs false
def knowHead : List Ins := [⟨3, 2, 0, 0, ⟨#[]⟩⟩, ⟨4, 3, 0, 0, ⟨#[]⟩⟩, ⟨0, 4, 0, 0, ⟨#[49, 48, 48]⟩⟩, ⟨2, 4, 4, 2, ⟨#[]⟩⟩, ⟨2, 4, 1, 4, ⟨#[]⟩⟩, ⟨0, 5, 0, 0, ⟨#[49, 48, 49, 49, 48, 48, 48]⟩⟩, ⟨2, 5, 5, 2, ⟨#[]⟩⟩,
  ⟨0, 6, 0, 0, ⟨#[49, 49, 48, 49, 48, 48, 49, 48, 49, 49, 48, 48, 48]⟩⟩, ⟨2, 5, 6, 5, ⟨#[]⟩⟩, ⟨2, 5, 4, 5, ⟨#[]⟩⟩, ⟨2, 0, 5, 3, ⟨#[]⟩⟩,
  ⟨0, 2, 0, 0, ⟨#[48]⟩⟩, ⟨0, 3, 0, 0, ⟨#[48]⟩⟩, ⟨0, 4, 0, 0, ⟨#[48]⟩⟩, ⟨0, 5, 0, 0, ⟨#[48]⟩⟩, ⟨0, 6, 0, 0, ⟨#[48]⟩⟩]
theorem know_prefix {P : List Ins} {y : ByteArray} (H : ∀ i, i < 19 → P.getD i zz = (specHead y ++ knowHead).getD i zz) (hlen : 19 ≤ P.length) (Y : Tr) (hy : dec (bl y) = Y) (x : Tr)
    (hz : 1 + (cellT Y Y).size + x.size ≤ 2000000) : Goes P 19 0 (init x) 19 (init (.cons (cellT Y Y) x)) := by
  have hx := Tr.size_pos x
  have h2 : (cellT Y Y).size = 1 + (1 + 1 + (1 + t100.size + Y.size)) + (1 + tPut.size + (1 + tClear.size + Y.size)) := rfl
  have h3 : tPut.size = 13 := rfl
  have h4 : tClear.size = 7 := rfl
  have h5 : t100.size = 3 := rfl
  rw [init_mk, init_mk, show (19 : Nat) = 0 + 1 + 1 + 1 + 1 + 1 + 1 + 1 + 1 + 1 + 1 + 1 + 1 + 1 + 1 + 1 + 1 + 1 + 1 + 1 from rfl]
  refine go1 ⟨0, 1, 0, 0, y⟩ (by omega) (H 0 (by decide)) (ex_set 1 y _) (a1 := 1) rfl ?_
  rw [show ((1 : Int).toNat) = 1 from rfl, up1, hy]
  refine go1 ⟨2, 0, 1, 0, ⟨#[]⟩⟩ (by omega) (H 1 (by decide)) (ex_cons 0 1 0 _ (by show 1 + Y.size + x.size ≤ _; omega)) (a1 := 2) rfl ?_
  rw [show ((0 : Int).toNat) = 0 from rfl, up0]
  refine go1 ⟨0, 1, 0, 0, ⟨#[48]⟩⟩ (by omega) (H 2 (by decide)) (ex_set 1 _ _) (a1 := 3) rfl ?_
  rw [show ((1 : Int).toNat) = 1 from rfl, up1]
  refine go1 ⟨3, 2, 0, 0, ⟨#[]⟩⟩ (by omega) (H 3 (by decide)) (ex_head 2 0 _) (a1 := 4) rfl ?_
  rw [show ((2 : Int).toNat) = 2 from rfl, up2]
  refine go1 ⟨4, 3, 0, 0, ⟨#[]⟩⟩ (by omega) (H 4 (by decide)) (ex_tail 3 0 _) (a1 := 5) rfl ?_
  rw [show ((3 : Int).toNat) = 3 from rfl, up3]
  refine go1 ⟨0, 4, 0, 0, ⟨#[49, 48, 48]⟩⟩ (by omega) (H 5 (by decide)) (ex_set 4 _ _) (a1 := 6) rfl ?_
  rw [show ((4 : Int).toNat) = 4 from rfl, up4]
  refine go1 ⟨2, 4, 4, 2, ⟨#[]⟩⟩ (by omega) (H 6 (by decide)) (ex_cons 4 4 2 _ (by show 1 + 3 + Y.size ≤ _; omega)) (a1 := 7) rfl ?_
  rw [show ((4 : Int).toNat) = 4 from rfl, up4]
  refine go1 ⟨2, 4, 1, 4, ⟨#[]⟩⟩ (by omega) (H 7 (by decide)) (ex_cons 4 1 4 _ (by show 1 + 1 + (1 + 3 + Y.size) ≤ _; omega)) (a1 := 8) rfl ?_
  rw [show ((4 : Int).toNat) = 4 from rfl, up4]
  refine go1 ⟨0, 5, 0, 0, ⟨#[49, 48, 49, 49, 48, 48, 48]⟩⟩ (by omega) (H 8 (by decide)) (ex_set 5 _ _) (a1 := 9) rfl ?_
  rw [show ((5 : Int).toNat) = 5 from rfl, up5]
  refine go1 ⟨2, 5, 5, 2, ⟨#[]⟩⟩ (by omega) (H 9 (by decide)) (ex_cons 5 5 2 _ (by show 1 + 7 + Y.size ≤ _; omega)) (a1 := 10) rfl ?_
  rw [show ((5 : Int).toNat) = 5 from rfl, up5]
  refine go1 ⟨0, 6, 0, 0, ⟨#[49, 49, 48, 49, 48, 48, 49, 48, 49, 49, 48, 48, 48]⟩⟩ (by omega) (H 10 (by decide)) (ex_set 6 _ _) (a1 := 11) rfl ?_
  rw [show ((6 : Int).toNat) = 6 from rfl, up6]
  refine go1 ⟨2, 5, 6, 5, ⟨#[]⟩⟩ (by omega) (H 11 (by decide)) (ex_cons 5 6 5 _ (by show 1 + 13 + (1 + 7 + Y.size) ≤ _; omega)) (a1 := 12) rfl ?_
  rw [show ((5 : Int).toNat) = 5 from rfl, up5]
  refine go1 ⟨2, 5, 4, 5, ⟨#[]⟩⟩ (by omega) (H 12 (by decide)) (ex_cons 5 4 5 _ (by show 1 + (1 + 1 + (1 + 3 + Y.size)) + (1 + 13 + (1 + 7 + Y.size)) ≤ _; omega)) (a1 := 13) rfl ?_
  rw [show ((5 : Int).toNat) = 5 from rfl, up5]
  refine go1 ⟨2, 0, 5, 3, ⟨#[]⟩⟩ (by omega) (H 13 (by decide)) (ex_cons 0 5 3 _ hz) (a1 := 14) rfl ?_
  rw [show ((0 : Int).toNat) = 0 from rfl, up0]
  refine go1 ⟨0, 2, 0, 0, ⟨#[48]⟩⟩ (by omega) (H 14 (by decide)) (ex_set 2 _ _) (a1 := 15) rfl ?_
  rw [show ((2 : Int).toNat) = 2 from rfl, up2]
  refine go1 ⟨0, 3, 0, 0, ⟨#[48]⟩⟩ (by omega) (H 15 (by decide)) (ex_set 3 _ _) (a1 := 16) rfl ?_
  rw [show ((3 : Int).toNat) = 3 from rfl, up3]
  refine go1 ⟨0, 4, 0, 0, ⟨#[48]⟩⟩ (by omega) (H 16 (by decide)) (ex_set 4 _ _) (a1 := 17) rfl ?_
  rw [show ((4 : Int).toNat) = 4 from rfl, up4]
  refine go1 ⟨0, 5, 0, 0, ⟨#[48]⟩⟩ (by omega) (H 17 (by decide)) (ex_set 5 _ _) (a1 := 18) rfl ?_
  rw [show ((5 : Int).toNat) = 5 from rfl, up5]
  refine go1 ⟨0, 6, 0, 0, ⟨#[48]⟩⟩ (by omega) (H 18 (by decide)) (ex_set 6 _ _) (a1 := 19) rfl ?_
  rw [show ((6 : Int).toNat) = 6 from rfl, up6]
  exact Goes.refl _ _ _
def Far (x : Ins) (w : Nat) : Prop := x.f1.toNat ≠ w ∧ x.f2.toNat ≠ w ∧ x.f3.toNat ≠ w ∨ x.f0 = 5 ∧ x.f1.toNat ≠ w
theorem up_far (r : Rg) (w a : Nat) (c v : Tr) (h : a ≠ w) : upd (upd r w c) a v = upd (upd r a v) w c := by
  funext i
  unfold upd
  by_cases h1 : i = a
  · rw [if_pos h1, if_neg (by omega), if_pos h1]
  · simp [h1]
theorem up_get (r : Rg) (w a : Nat) (c : Tr) (h : a ≠ w) : upd r w c a = r a := by unfold upd; rw [if_neg h]
theorem exec_far (x : Ins) (w : Nat) (c : Tr) (h : Far x w) (r : Rg) : exec x (upd r w c) = (exec x r).map fun q => (q.1, upd q.2 w c) := by
  unfold exec
  rcases h with ⟨h1, h2, h3⟩ | ⟨h0, h1⟩
  · rw [up_get _ _ _ _ h1, up_get _ _ _ _ h2, up_get _ _ _ _ h3]
    simp only [up_far _ _ _ _ _ h1]
    repeat' (first | rfl | split)
  · rw [up_get _ _ _ _ h1]
    simp [h0]
theorem inside (pre p post : List Ins) (w : Nat) (c : Tr) (hf : ∀ x ∈ p, Far x w) (hp : ∀ j, j < p.length → Right (p.getD j zz) j p.length) : ∀ (k : Nat) (a : Int) (r : Rg), 0 ≤ a → a ≤ (p.length : Int) →
    Goes (pre ++ p ++ post) (after p k a r).2.2.1 ((pre.length : Int) + a) (upd r w c) ((pre.length : Int) + (after p k a r).1) (upd (after p k a r).2.1 w c) ∧ 0 ≤ (after p k a r).1 ∧ (after p k a r).1 ≤ (p.length : Int) ∧
    ((after p k a r).2.2.2 = true → (after p k a r).1 = (p.length : Int) ∨ (after p k a r).2.2.1 = k) ∧
    ((after p k a r).2.2.2 = false → (after p k a r).1 < (p.length : Int) ∧ exec (p.getD (after p k a r).1.toNat zz) (after p k a r).2.1 = none ∧ (after p k a r).2.2.1 < k) := by
  intro k
  induction k with
  | zero => intro a r h0 h1; exact ⟨Goes.refl _ _ _, h0, h1, fun _ => .inr rfl, fun h => by cases h⟩
  | succ k ih =>
    intro a r h0 h1
    by_cases he : a = (p.length : Int)
    · rw [after, if_pos he]
      exact ⟨Goes.refl _ _ _, h0, h1, fun _ => .inl he, fun h => by cases h⟩
    · obtain ⟨j, rfl⟩ := Int.eq_ofNat_of_zero_le h0
      have hj : j < p.length := by omega
      have hget : (pre ++ p ++ post).getD ((pre.length : Int) + (j : Int)).toNat zz = p.getD j zz := by
        rw [show ((pre.length : Int) + (j : Int)).toNat = pre.length + j from by omega, List.getD_eq_getElem?_getD, List.getElem?_append_left (by rw [List.length_append]; omega), List.getElem?_append_right (by omega), Nat.add_sub_cancel_left, ← List.getD_eq_getElem?_getD]
      have hm : p.getD j zz ∈ p := by rw [List.getD_eq_getElem?_getD, List.getElem?_eq_getElem hj]; exact List.getElem_mem hj
      have hr := hp j hj
      have hw : ∀ q, exec (p.getD j zz) r = some q → 0 ≤ (j : Int) + q.1 ∧ (j : Int) + q.1 ≤ (p.length : Int) := by
        intro q hq
        have := (after_behind pre p hp 1 j r (by omega) (by omega)).2
        rw [after, if_neg he, Int.toNat_natCast, hq] at this
        exact this
      rw [after, if_neg he, Int.toNat_natCast]
      have hfar := exec_far _ w c (hf _ hm) r
      cases hx : exec (p.getD j zz) r with
      | none => exact ⟨Goes.refl _ _ _, h0, h1, fun h => absurd h (by simp), fun _ => ⟨by show (j : Int) < _; omega, by rw [Int.toNat_natCast]; exact hx, by show 0 < _; omega⟩⟩
      | some q =>
        rw [hx] at hfar
        obtain ⟨w0, w1⟩ := hw q hx
        obtain ⟨g, i0, i1, i2, i3⟩ := ih ((j : Int) + q.1) q.2 w0 w1
        refine ⟨?_, i0, i1, fun h => (i2 h).imp id (fun e => by show _ + 1 = _; rw [e]), fun h => ⟨(i3 h).1, (i3 h).2.1, Nat.succ_lt_succ (i3 h).2.2⟩⟩
        exact go1 _ (by simp only [List.length_append]; omega) hget hfar (by show (pre.length : Int) + j + q.1 = _; omega) g
end Go.Proofs.YtocoamgbpoommaaGreatDoor.Plain
end
section
namespace Go.Proofs.YtocoamgbpoommaaGreatDoor.C
open Go.RowKit Go.Proofs.YtocoamgbpoommaaGreatDoorW.PrintWords Go.Proofs.YtocoamgbpoommaaGreatDoorW.PrintLast Go.Proofs.YtocoamgbpoommaaGreatDoorW.PrintMore
attribute [local go_sem] max2_int min2_int max_two min_two max_three min_three max_four min_four
set_option linter.unusedVariables false
set_option linter.unusedSimpArgs false
def code_Regs.l0 : Nat → Int → List (S72) → Int → Int → Option (Int × Int)
 | 0, _, _, _, _ => none
 | k + 1, x4, x10, x11, x12 => if x12 < x11 then (if 0 ≤ x12 then (if x12 < (x10.length : Int) then (if ((rd_T72 x10 x12).f0) = 5 then (code_Regs.l0 k (mx x4 ((rd_T72 x10 x12).f1)) x10 x11 (wrap64 (x12 + 1))) else (code_Regs.l0 k (mx (mx (mx x4 ((rd_T72 x10 x12).f1)) ((rd_T72 x10 x12).f2)) ((rd_T72 x10 x12).f3)) x10 x11 (wrap64 (x12 + 1)))) else (none)) else (none)) else (some (wrap64 (x4 + 1), 0))
def code_Regs.f (k : Nat) (l0 : List (S72)) : Option (Int × Int) := (code_Valid.f k l0).bind fun t1 => (if t1 = true then (code_Regs.l0 k 0 l0 (l0.length : Int) 0) else (some (0, 1)))
set_option maxHeartbeats 8000000 in
set_option maxRecDepth 100000 in
theorem code_Regs.calls (k : Nat) (A0 : Option Addr) (c0 : Nat) (l0 : List (S72)) (r1 : Int) (r2 : Int) (w : World) (hr0 : Kd.C k72 w A0 l0.length l0) (hc0 : l0.length ≤ c0) (h : code_Regs.f k l0 = some (r1, r2)) :
  Calls Tryz.prog 53 #[.slice A0 l0.length c0] w fun e w' => e = .returned (.tuple #[.int .i64 r1, .int .i64 r2]) ∧ Below w.heap.size w w' := by
 have hu72 := Tryz.underlying72
 have HR0 := Aside0.mk hr0
 have HC0 := Aside0.mk hc0
 clear hr0 hc0
 have HB := Aside0.mk (Below.refl w.heap.size w)
 have H : ((code_Valid.f k l0).bind fun t1 => (if t1 = true then (code_Regs.l0 k 0 l0 (l0.length : Int) 0) else (some (0, 1)))) = some (r1, r2) := h
 clear h
 replace H := Option.bind_eq_some_iff.mp H
 obtain ⟨t1, A20, H⟩ := H
 replace H : (if t1 = true then (code_Regs.l0 k 0 l0 (l0.length : Int) 0) else (some (0, 1))) = some (r1, r2) := H
 have A2 := Aside0.mk A20
 clear A20
 by_cases c3 : t1 = true
 ·subst c3
  have H1 : (code_Regs.l0 k 0 l0 (l0.length : Int) 0) = some (r1, r2) := by rw [if_pos rfl] at H; exact H
  clear H
  have H := H1
  clear H1
  have H' := Aside0.mk H
  clear H
  go_enter Tryz.func53, Tryz.ntmps53
  go_wp2_with (first | ((with_reducible refine gate_callee (f := 40) rfl ?_); refine goesL_ (some 8) rfl rfl Tryz.func40 (by kernel_rfl) rfl #[.slice A0 l0.length c0] rfl (by (try simp only [List.map_toArray, List.map_cons, List.map_nil]); first | done | rfl | (simp only [List.length_drop, List.length_take]; rfl)) ?_; (with_reducible refine (code_Valid.calls k _ _ l0 true _ ?side1 ?side2 A2.out).mono ?_); (case side1 => repeat (first | exact HR0.out | (with_reducible refine Kd.C_alloc ?_ _) | (with_reducible refine Kd.C_drewN ?_ _) | (with_reducible refine Kd.C_drew ?_))); (case side2 => exact HC0.out); rintro e w4 ⟨rfl, hb⟩; refine ⟨_, rfl, ?_⟩; have n0_ := Aside0.mk (below_step (by repeat (first | (with_reducible first | exact HB.out | apply below_alloc | apply pw_below_drewN | apply below_drew1) | exact HB.out)) hb); clear HB; have HB := n0_; clear n0_; (try clear hb); (try clear hb2); (try clear hk); (try clear hi)))
  go_loopg [4, 12] k (fun kq v4 v12 w' => ∃ (x4_1 : Int) (x12_1 : Int), v4 = .int .i64 x4_1 ∧ v12 = .int .i64 x12_1 ∧ Aside0 (code_Regs.l0 kq x4_1 l0 (l0.length : Int) x12_1 = some (r1, r2)) ∧ Aside0 (kq ≤ k) ∧ Aside0 (Below w.heap.size w w'))
  case atStart => exact ⟨(0), (0), (by first | rfl | (simp; done) | (simp [*]; done)), (by first | rfl | (simp; done) | (simp [*]; done)), H', ⟨Nat.le_refl _⟩, ⟨by repeat (first | (with_reducible first | exact HB.out | apply below_alloc | apply pw_below_drewN | apply below_drew1) | exact HB.out)⟩⟩
  case round =>
   clear H'
   try clear p2
   try clear c3
   try clear c4
   obtain ⟨x4_1, x12_1, rfl, rfl, HA, HK1, HB⟩ := hrel
   cases gk with
   | zero => exact absurd HA.out (by simp [code_Regs.l0])
   | succ k1 =>
    have H := HA.out
    clear HA
    simp only [code_Regs.l0] at H
    by_cases c5 : x12_1 < (l0.length : Int)
    ·rw [if_pos c5] at H
     have c5b0 : decide (x12_1 < (l0.length : Int)) = true := decide_eq_true c5
     clear c5
     by_cases c6 : 0 ≤ x12_1
     ·rw [if_pos c6] at H
      have c6b0 : decide (0 ≤ x12_1) = true := decide_eq_true c6
      clear c6
      by_cases c7 : x12_1 < (l0.length : Int)
      ·rw [if_pos c7] at H
       have c7b0 : decide (x12_1 < (l0.length : Int)) = true := decide_eq_true c7
       clear c7
       obtain ⟨ji8, hji8⟩ : ∃ j_ : Int, (mx x4_1 ((rd_T72 l0 x12_1).f1)) = j_ := ⟨_, rfl⟩
       replace H : (if ((rd_T72 l0 x12_1).f0) = 5 then (code_Regs.l0 k1 ji8 l0 (l0.length : Int) (wrap64 (x12_1 + 1))) else (code_Regs.l0 k1 (mx (mx (ji8) ((rd_T72 l0 x12_1).f2)) ((rd_T72 l0 x12_1).f3)) l0 (l0.length : Int) (wrap64 (x12_1 + 1)))) = some (r1, r2) := by first | (rw [hji8] at H; exact H) | (simp only [hji8] at H ⊢; exact H)
       have hji8_ : (if x4_1 < ((rd_T72 l0 x12_1).f1) then ((rd_T72 l0 x12_1).f1) else x4_1) = ji8 := hji8
       by_cases c9 : ((rd_T72 l0 x12_1).f0) = 5
       ·rw [if_pos c9] at H
        have c9b0 : (((rd_T72 l0 x12_1).f0) == 5) = true := beq_iff_eq.mpr c9
        have c9b1 : (((rd_T72 l0 x12_1).f0) != 5) = false := bne_eq_false_iff_eq.mpr c9
        clear c9
        have H' := Aside0.mk H
        clear H
        have p2 : 0 ≤ (x12_1 : Int) := of_decide_eq_true (by first | (with_reducible assumption) | assumption)
        have q2 : x12_1 < (l0.length : Int) := of_decide_eq_true (by first | (with_reducible assumption) | assumption)
        obtain ⟨ad2, e2, hx2_0, hx2_1, hx2_2, hx2_3, hx2_4⟩ := at_T72 HR0.out x12_1 p2 q2
        cases e2
        replace hx2_0 := (HB.out.cell (World.block_lt_of_cell? w _ hx2_0)).trans hx2_0
        replace hx2_1 := (HB.out.cell (World.block_lt_of_cell? w _ hx2_1)).trans hx2_1
        replace hx2_2 := (HB.out.cell (World.block_lt_of_cell? w _ hx2_2)).trans hx2_2
        replace hx2_3 := (HB.out.cell (World.block_lt_of_cell? w _ hx2_3)).trans hx2_3
        replace hx2_4 := (HB.out.cell (World.block_lt_of_cell? w _ hx2_4)).trans hx2_4
        replace p2 := eq_true p2
        replace q2 := eq_true q2
        go_wp2_with (first | ((with_reducible refine gate_dst (N := 6) rfl ?_); refine box_event ?hg (N := 6) ?hd (cs := #[.int .i64 0, .int .i64 0, .int .i64 0, .int .i64 0, .string (⟨#[]⟩ : ByteArray)]) (t := 72) ?hr ?_; (case hd => rfl); (case hg => rfl); (case hr => first | (go_simp; done) | (go_simp; rfl)); intro gb3 hg w10 hbox hb; have n0_ := Aside0.mk (below_step (by repeat (first | (with_reducible first | exact HB.out | apply below_alloc | apply pw_below_drewN | apply below_drew1) | exact HB.out)) hb); have n1_ := Aside0.mk (hbox); have n2_ := Aside0.mk ((by rw [hg]; exact (below_size (by repeat (first | (with_reducible first | exact HB.out | apply below_alloc | apply pw_below_drewN | apply below_drew1) | exact HB.out))) : w.heap.size ≤ gb3)); have n3_ := Aside0.mk ((by rw [hg]; exact (below_size (by repeat (first | (with_reducible first | exact HB.out | apply below_alloc | apply pw_below_drewN | apply below_drew1) | exact HB.out))) : w.heap.size ≤ gb3)); clear HB; have HB := n0_; have BK3 := n1_; have GW3 := n2_; have GE3 := n3_; clear n0_ n1_ n2_ n3_; clear hb hbox hg; have hcz11_0 : w10.cell? ⟨gb3, 0, none⟩ = some (.int .i64 0) := (blk_cell BK3.out 0).trans rfl; have hcz11_1 : w10.cell? ⟨gb3, 1, none⟩ = some (.int .i64 0) := (blk_cell BK3.out 1).trans rfl; have hcz11_2 : w10.cell? ⟨gb3, 2, none⟩ = some (.int .i64 0) := (blk_cell BK3.out 2).trans rfl; have hcz11_3 : w10.cell? ⟨gb3, 3, none⟩ = some (.int .i64 0) := (blk_cell BK3.out 3).trans rfl; have hcz11_4 : w10.cell? ⟨gb3, 4, none⟩ = some (.string (⟨#[]⟩ : ByteArray)) := (blk_cell BK3.out 4).trans rfl; have hfz11_0 := blk_frozen BK3.out 0; have hfz11_1 := blk_frozen BK3.out 1; have hfz11_2 := blk_frozen BK3.out 2; have hfz11_3 := blk_frozen BK3.out 3; have hfz11_4 := blk_frozen BK3.out 4))
        go_roundg k1
        case measure => have := HK1.out; omega
        case rel => exact ⟨(ji8), (wrap64 (x12_1 + 1)), (by first | rfl | (simp; done) | (simp only [← hji8] <;> (first | rfl | simp)) | (simp [*]; done)), (by first | rfl | (simp; done) | (simp [*]; done)), H', ⟨by have := HK1.out; omega⟩, ⟨by repeat (first | (with_reducible first | exact HB.out | apply below_alloc | apply pw_below_drewN | apply below_drew1 | refine below_set ?_ GE3.out) | exact HB.out)⟩⟩
       ·rw [if_neg c9] at H
        have c9b0 : (((rd_T72 l0 x12_1).f0) == 5) = false := beq_eq_false_iff_ne.mpr c9
        have c9b1 : (((rd_T72 l0 x12_1).f0) != 5) = true := bne_iff_ne.mpr c9
        obtain ⟨ji12, hji12⟩ : ∃ j_ : Int, (mx (ji8) ((rd_T72 l0 x12_1).f2)) = j_ := ⟨_, rfl⟩
        replace H : (code_Regs.l0 k1 (mx (ji12) ((rd_T72 l0 x12_1).f3)) l0 (l0.length : Int) (wrap64 (x12_1 + 1))) = some (r1, r2) := by first | (rw [hji12] at H; exact H) | (simp only [hji12] at H ⊢; exact H)
        have hji12_ : (if (ji8) < ((rd_T72 l0 x12_1).f2) then ((rd_T72 l0 x12_1).f2) else (ji8)) = ji12 := hji12
        obtain ⟨ji13, hji13⟩ : ∃ j_ : Int, (mx (ji12) ((rd_T72 l0 x12_1).f3)) = j_ := ⟨_, rfl⟩
        replace H : (code_Regs.l0 k1 ji13 l0 (l0.length : Int) (wrap64 (x12_1 + 1))) = some (r1, r2) := by first | (rw [hji13] at H; exact H) | (simp only [hji13] at H ⊢; exact H)
        have hji13_ : (if (ji12) < ((rd_T72 l0 x12_1).f3) then ((rd_T72 l0 x12_1).f3) else (ji12)) = ji13 := hji13
        have H' := Aside0.mk H
        clear H
        have p2 : 0 ≤ (x12_1 : Int) := of_decide_eq_true (by first | (with_reducible assumption) | assumption)
        have q2 : x12_1 < (l0.length : Int) := of_decide_eq_true (by first | (with_reducible assumption) | assumption)
        obtain ⟨ad2, e2, hx2_0, hx2_1, hx2_2, hx2_3, hx2_4⟩ := at_T72 HR0.out x12_1 p2 q2
        cases e2
        replace hx2_0 := (HB.out.cell (World.block_lt_of_cell? w _ hx2_0)).trans hx2_0
        replace hx2_1 := (HB.out.cell (World.block_lt_of_cell? w _ hx2_1)).trans hx2_1
        replace hx2_2 := (HB.out.cell (World.block_lt_of_cell? w _ hx2_2)).trans hx2_2
        replace hx2_3 := (HB.out.cell (World.block_lt_of_cell? w _ hx2_3)).trans hx2_3
        replace hx2_4 := (HB.out.cell (World.block_lt_of_cell? w _ hx2_4)).trans hx2_4
        replace p2 := eq_true p2
        replace q2 := eq_true q2
        go_wp2_with (first | ((with_reducible refine gate_dst (N := 6) rfl ?_); refine box_event ?hg (N := 6) ?hd (cs := #[.int .i64 0, .int .i64 0, .int .i64 0, .int .i64 0, .string (⟨#[]⟩ : ByteArray)]) (t := 72) ?hr ?_; (case hd => rfl); (case hg => rfl); (case hr => first | (go_simp; done) | (go_simp; rfl)); intro gb3 hg w14 hbox hb; have n0_ := Aside0.mk (below_step (by repeat (first | (with_reducible first | exact HB.out | apply below_alloc | apply pw_below_drewN | apply below_drew1) | exact HB.out)) hb); have n1_ := Aside0.mk (hbox); have n2_ := Aside0.mk ((by rw [hg]; exact (below_size (by repeat (first | (with_reducible first | exact HB.out | apply below_alloc | apply pw_below_drewN | apply below_drew1) | exact HB.out))) : w.heap.size ≤ gb3)); have n3_ := Aside0.mk ((by rw [hg]; exact (below_size (by repeat (first | (with_reducible first | exact HB.out | apply below_alloc | apply pw_below_drewN | apply below_drew1) | exact HB.out))) : w.heap.size ≤ gb3)); clear HB; have HB := n0_; have BK3 := n1_; have GW3 := n2_; have GE3 := n3_; clear n0_ n1_ n2_ n3_; clear hb hbox hg; have hcz15_0 : w14.cell? ⟨gb3, 0, none⟩ = some (.int .i64 0) := (blk_cell BK3.out 0).trans rfl; have hcz15_1 : w14.cell? ⟨gb3, 1, none⟩ = some (.int .i64 0) := (blk_cell BK3.out 1).trans rfl; have hcz15_2 : w14.cell? ⟨gb3, 2, none⟩ = some (.int .i64 0) := (blk_cell BK3.out 2).trans rfl; have hcz15_3 : w14.cell? ⟨gb3, 3, none⟩ = some (.int .i64 0) := (blk_cell BK3.out 3).trans rfl; have hcz15_4 : w14.cell? ⟨gb3, 4, none⟩ = some (.string (⟨#[]⟩ : ByteArray)) := (blk_cell BK3.out 4).trans rfl; have hfz15_0 := blk_frozen BK3.out 0; have hfz15_1 := blk_frozen BK3.out 1; have hfz15_2 := blk_frozen BK3.out 2; have hfz15_3 := blk_frozen BK3.out 3; have hfz15_4 := blk_frozen BK3.out 4))
        go_roundg k1
        case measure => have := HK1.out; omega
        case rel => exact ⟨(ji13), (wrap64 (x12_1 + 1)), (by first | rfl | (simp; done) | (simp only [← hji13] <;> (first | rfl | simp)) | (simp [*]; done)), (by first | rfl | (simp; done) | (simp [*]; done)), H', ⟨by have := HK1.out; omega⟩, ⟨by repeat (first | (with_reducible first | exact HB.out | apply below_alloc | apply pw_below_drewN | apply below_drew1 | refine below_set ?_ GE3.out) | exact HB.out)⟩⟩
      ·rw [if_neg c7] at H
       exact absurd H (by simp)
     ·rw [if_neg c6] at H
      exact absurd H (by simp)
    ·rw [if_neg c5] at H
     have c5b0 : decide (x12_1 < (l0.length : Int)) = false := decide_eq_false c5
     clear c5
     simp only [Option.some.injEq, Prod.mk.injEq] at H
     obtain ⟨rfl, rfl⟩ := H
     go_wp2
     go_ret2
     exact ⟨by first | rfl | (simp [errW_none, errW_some] <;> rfl) | (simp [*, errW_none, errW_some] <;> rfl), by repeat (first | (with_reducible first | exact HB.out | apply below_alloc | apply pw_below_drewN | apply below_drew1) | exact HB.out)⟩
 ·replace c3 := Bool.eq_false_iff.mpr c3
  subst c3
  have H1 : (some (0, 1)) = some (r1, r2) := by rw [if_neg (show ¬ (false = true) by decide)] at H; exact H
  clear H
  have H := H1
  clear H1
  simp only [Option.some.injEq, Prod.mk.injEq] at H
  obtain ⟨rfl, rfl⟩ := H
  go_enter Tryz.func53, Tryz.ntmps53
  go_wp2_with (first | ((with_reducible refine gate_callee (f := 40) rfl ?_); refine goesL_ (some 8) rfl rfl Tryz.func40 (by kernel_rfl) rfl #[.slice A0 l0.length c0] rfl (by (try simp only [List.map_toArray, List.map_cons, List.map_nil]); first | done | rfl | (simp only [List.length_drop, List.length_take]; rfl)) ?_; (with_reducible refine (code_Valid.calls k _ _ l0 false _ ?side1 ?side2 A2.out).mono ?_); (case side1 => repeat (first | exact HR0.out | (with_reducible refine Kd.C_alloc ?_ _) | (with_reducible refine Kd.C_drewN ?_ _) | (with_reducible refine Kd.C_drew ?_))); (case side2 => exact HC0.out); rintro e w16 ⟨rfl, hb⟩; refine ⟨_, rfl, ?_⟩; have n0_ := Aside0.mk (below_step (by repeat (first | (with_reducible first | exact HB.out | apply below_alloc | apply pw_below_drewN | apply below_drew1) | exact HB.out)) hb); clear HB; have HB := n0_; clear n0_; (try clear hb); (try clear hb2); (try clear hk); (try clear hi)))
  go_ret2
  exact ⟨by first | rfl | (simp [errW_none, errW_some] <;> rfl) | (simp [*, errW_none, errW_some] <;> rfl), by repeat (first | (with_reducible first | exact HB.out | apply below_alloc | apply pw_below_drewN | apply below_drew1) | exact HB.out)⟩
end Go.Proofs.YtocoamgbpoommaaGreatDoor.C
end
