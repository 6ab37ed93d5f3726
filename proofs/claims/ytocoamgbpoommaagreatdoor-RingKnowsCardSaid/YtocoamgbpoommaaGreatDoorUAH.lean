/- Texts of this claim, together: what the functions return, and what they say in plain words. -/
import Derived.Test.YtocoamgbpoommaaGreatDoorUAF
import Derived.Test.YtocoamgbpoommaaGreatDoorUAG
import Derived.Test.YtocoamgbpoommaaGreatDoorUB
import Derived.Test.YtocoamgbpoommaaGreatDoorUT
import Derived.StillTailTactics
import Derived.IntWalk
section
/- The contract of law07.Follows where a program does, after so many steps more, what another one does. -/
namespace Go.Proofs.YtocoamgbpoommaaGreatDoor.C
open Go.RowKit Go.Proofs.YtocoamgbpoommaaGreatDoorW.PrintWords Go.Proofs.YtocoamgbpoommaaGreatDoorW.PrintLast Go.Proofs.YtocoamgbpoommaaGreatDoorW.PrintMore
open Go.Proofs.YtocoamgbpoommaaGreatDoor.Plain (Tr OKP runM later)
set_option linter.unusedVariables false
set_option linter.unusedSimpArgs false

theorem after_count (p : Prg) : ∀ (k : Nat) (a : Int) (r : Plain.Rg), (Plain.after p k a r).2.2.1 ≤ k
  | 0, _, _ => Nat.le_refl _
  | k + 1, a, r => by
    rw [Plain.after]
    split
    · exact Nat.zero_le _
    · split
      · exact Nat.zero_le _
      · rename_i q _
        have := after_count p k (a + q.1) q.2
        show (Plain.after p k (a + q.1) q.2).2.2.1 + 1 ≤ k + 1
        omega
/-- How a run may end. -/
theorem run_ends (p : Prg) (x : Tr) (k : Nat) : (∃ t n, runM p x k = (t, n, 0) ∧ n ≤ k) ∨ (∃ t n, runM p x k = (t, n, 3)) ∨ ∃ t n, runM p x k = (t, n, 7) := by
  have := after_count p k 0 (Plain.init x)
  unfold runM
  dsimp only
  split
  · split
    · exact .inl ⟨_, _, rfl, this⟩
    · exact .inr (.inr ⟨_, _, rfl⟩)
  · exact .inr (.inl ⟨_, _, rfl⟩)
theorem Run_of (w : World) (m x : Value) (p : Prg) (t : Tr) (k : Nat) (K : Int) (hK : K = ((k : Nat) : Int)) (hm : MachAt w m p) (hx : Nd w t x) (hz : t.size ≤ 2000000) (hp : OKP p) (hk : k ≤ 1000000000) :
    Calls Tryz.prog 29 #[m, x, .int .i64 K] w (Ran w (runM p t k)) := by
  subst hK; exact Run_calls w m x p t k hm hx hz hp hk
set_option maxHeartbeats 4000000 in
set_option maxRecDepth 100000 in
theorem Follows_calls (A1 A2 : Option Addr) (c1 c2 : Nat) (p q : Prg) (x y : Tr) (vx vy : Value) (m : Nat) (w : World) (hC1 : Kd.C k72 w A1 p.length p) (hC2 : Kd.C k72 w A2 q.length q)
    (hp : OKP p) (hq : OKP q) (hx : Nd w x vx) (hy : Nd w y vy) (zx : x.size ≤ 2000000) (zy : y.size ≤ 2000000) (hm : m ≤ 1000000) (hr : runM p x (20000 + m) = later m (runM q y 20000)) :
    Calls Tryz.prog 24 #[.slice A1 p.length c1, vx, .slice A2 q.length c2, vy, .int .i64 m] w (Yes w) := by
  have hs := run_size hq zy 20000
  unfold later at hr
  have HZX := Aside0.mk zx
  have HZY := Aside0.mk zy
  have HC1 := Aside0.mk hC1
  have HC2 := Aside0.mk hC2
  have HP := Aside0.mk hp
  have HP2 := Aside0.mk hq
  have HX := Aside0.mk hx
  have HY := Aside0.mk hy
  obtain ⟨M, hM⟩ : ∃ M : Nat, M = 20000 + m := ⟨_, rfl⟩
  have hMi : (20000 : Int) + (m : Int) = (M : Int) := by omega
  have HM : Aside0 (M ≤ 1000000000) := ⟨by omega⟩
  rw [← hM] at hr
  have hEnds := run_ends q y 20000
  clear zx zy hC1 hC2 hp hq hx hy hM
  rcases hEnds with ⟨t, n, hQ, hn⟩ | ⟨t, n, hQ⟩ | ⟨t, n, hQ⟩
  · rw [hQ] at hr hs
    have HQ := Aside0.mk hQ
    have HZ : Aside0 (t.size ≤ 2000000) := ⟨hs⟩
    obtain ⟨N, hN⟩ : ∃ N : Nat, N = n + m := ⟨_, rfl⟩
    have hNi : ((N : Int) == (n : Int) + (m : Int)) = true := beq_iff_eq.2 (by omega)
    have hr2 : runM p x M = (t, N, 0) := by rw [hr, hN]; rfl
    have hn2 : (n : Int) ≤ 20000 := by omega
    have HR := Aside0.mk hr2
    clear hQ hr hs hr2 hN hn
    go_enter Tryz.func24, Tryz.ntmps24
    go_wp2_with (first
      | (go_at_call 28; first
          | ((with_reducible refine (Load_calls _ A2 c2 q HC2.out HP2.out).mono ?_); rintro e1 w1 ⟨m1, rfl, hm1, hb1⟩; have HM1 := Aside0.mk hm1; have HB1 := Aside0.mk hb1; have HY1 := Aside0.mk (Nd.keep (NK.below hb1) _ _ HY.out); have HX1 := Aside0.mk (Nd.keep (NK.below hb1) _ _ HX.out); have HC11 := Aside0.mk (Kd.C_below HC1.out hb1); clear hm1 hb1)
          | ((with_reducible refine (Load_calls _ A1 c1 p HC12.out HP.out).mono ?_); rintro e3 w3 ⟨m3, rfl, hm3, hb3⟩; have HM3 := Aside0.mk hm3; have HB3 := Aside0.mk (below_then HB2.out HB2.out.size hb3); have HX3 := Aside0.mk (Nd.keep (NK.below hb3) _ _ HX2.out); have HN3 := Aside0.mk (Nd.keep (NK.below hb3) _ _ HN2.out); clear hm3 hb3))
      | (go_at_call 29; first
          | ((with_reducible refine (Run_of _ m1 vy q y 20000 20000 rfl HM1.out HY1.out HZY.out HP2.out (by omega)).mono ?_); rw [HQ.out]; rintro e2 w2 ⟨v2, rfl, hn2, hb2⟩; have HN2 := Aside0.mk hn2; have HX2 := Aside0.mk (Nd.keep (NK.below hb2) _ _ HX1.out); have HC12 := Aside0.mk (Kd.C_below HC11.out hb2); have HB2 := Aside0.mk (below_then HB1.out HB1.out.size hb2); clear hn2 hb2)
          | ((with_reducible refine (Run_of _ m3 vx p x M (M : Int) rfl HM3.out HX3.out HZX.out HP.out HM.out).mono ?_); rw [HR.out]; rintro e4 w4 ⟨v4, rfl, hn4, hb4⟩; have HN4 := Aside0.mk hn4; have HN34 := Aside0.mk (Nd.keep (NK.below hb4) _ _ HN3.out); have HB4 := Aside0.mk (below_then HB3.out HB3.out.size hb4); clear hn4 hb4))
      | (go_at_call 30; refine (Equal_calls t t v2 v4 _ HN34.out HN4.out (by have := HZ.out; omega) (by have := HZ.out; omega)).mono ?_; rintro e5 w5 ⟨⟨v5, rfl, hv5⟩, hb5⟩; obtain rfl := hv5.2 rfl; have HB5 := Aside0.mk (below_then HB4.out HB4.out.size hb5); clear hb5 hv5))
    go_ret
    exact ⟨rfl, HB5.out⟩
  · rw [hQ] at hr hs
    have HQ := Aside0.mk hQ
    have HZ : Aside0 (t.size ≤ 2000000) := ⟨hs⟩
    have hr2 : runM p x M = (t, 0, 3) := by rw [hr]; rfl
    have HR := Aside0.mk hr2
    clear hQ hr hs hr2
    go_enter Tryz.func24, Tryz.ntmps24
    go_wp2_with (first
      | (go_at_call 28; first
          | ((with_reducible refine (Load_calls _ A2 c2 q HC2.out HP2.out).mono ?_); rintro e1 w1 ⟨m1, rfl, hm1, hb1⟩; have HM1 := Aside0.mk hm1; have HB1 := Aside0.mk hb1; have HY1 := Aside0.mk (Nd.keep (NK.below hb1) _ _ HY.out); have HX1 := Aside0.mk (Nd.keep (NK.below hb1) _ _ HX.out); have HC11 := Aside0.mk (Kd.C_below HC1.out hb1); clear hm1 hb1)
          | ((with_reducible refine (Load_calls _ A1 c1 p HC12.out HP.out).mono ?_); rintro e3 w3 ⟨m3, rfl, hm3, hb3⟩; have HM3 := Aside0.mk hm3; have HB3 := Aside0.mk (below_then HB2.out HB2.out.size hb3); have HX3 := Aside0.mk (Nd.keep (NK.below hb3) _ _ HX2.out); have HN3 := Aside0.mk (Nd.keep (NK.below hb3) _ _ HN2.out); clear hm3 hb3))
      | (go_at_call 29; first
          | ((with_reducible refine (Run_of _ m1 vy q y 20000 20000 rfl HM1.out HY1.out HZY.out HP2.out (by omega)).mono ?_); rw [HQ.out]; rintro e2 w2 ⟨v2, rfl, hn2, hb2⟩; have HN2 := Aside0.mk hn2; have HX2 := Aside0.mk (Nd.keep (NK.below hb2) _ _ HX1.out); have HC12 := Aside0.mk (Kd.C_below HC11.out hb2); have HB2 := Aside0.mk (below_then HB1.out HB1.out.size hb2); clear hn2 hb2)
          | ((with_reducible refine (Run_of _ m3 vx p x M (M : Int) rfl HM3.out HX3.out HZX.out HP.out HM.out).mono ?_); rw [HR.out]; rintro e4 w4 ⟨v4, rfl, hn4, hb4⟩; have HN4 := Aside0.mk hn4; have HN34 := Aside0.mk (Nd.keep (NK.below hb4) _ _ HN3.out); have HB4 := Aside0.mk (below_then HB3.out HB3.out.size hb4); clear hn4 hb4))
      | (go_at_call 30; refine (Equal_calls t t v2 v4 _ HN34.out HN4.out (by have := HZ.out; omega) (by have := HZ.out; omega)).mono ?_; rintro e5 w5 ⟨⟨v5, rfl, hv5⟩, hb5⟩; obtain rfl := hv5.2 rfl; have HB5 := Aside0.mk (below_then HB4.out HB4.out.size hb5); clear hb5 hv5))
    go_ret
    exact ⟨rfl, HB4.out⟩
  · rw [hQ] at hr hs
    have HQ := Aside0.mk hQ
    have HZ : Aside0 (t.size ≤ 2000000) := ⟨hs⟩
    have hr2 : runM p x M = (t, 0, 7) := by rw [hr]; rfl
    have HR := Aside0.mk hr2
    clear hQ hr hs hr2
    go_enter Tryz.func24, Tryz.ntmps24
    go_wp2_with (first
      | (go_at_call 28; first
          | ((with_reducible refine (Load_calls _ A2 c2 q HC2.out HP2.out).mono ?_); rintro e1 w1 ⟨m1, rfl, hm1, hb1⟩; have HM1 := Aside0.mk hm1; have HB1 := Aside0.mk hb1; have HY1 := Aside0.mk (Nd.keep (NK.below hb1) _ _ HY.out); have HX1 := Aside0.mk (Nd.keep (NK.below hb1) _ _ HX.out); have HC11 := Aside0.mk (Kd.C_below HC1.out hb1); clear hm1 hb1)
          | ((with_reducible refine (Load_calls _ A1 c1 p HC12.out HP.out).mono ?_); rintro e3 w3 ⟨m3, rfl, hm3, hb3⟩; have HM3 := Aside0.mk hm3; have HB3 := Aside0.mk (below_then HB2.out HB2.out.size hb3); have HX3 := Aside0.mk (Nd.keep (NK.below hb3) _ _ HX2.out); have HN3 := Aside0.mk (Nd.keep (NK.below hb3) _ _ HN2.out); clear hm3 hb3))
      | (go_at_call 29; first
          | ((with_reducible refine (Run_of _ m1 vy q y 20000 20000 rfl HM1.out HY1.out HZY.out HP2.out (by omega)).mono ?_); rw [HQ.out]; rintro e2 w2 ⟨v2, rfl, hn2, hb2⟩; have HN2 := Aside0.mk hn2; have HX2 := Aside0.mk (Nd.keep (NK.below hb2) _ _ HX1.out); have HC12 := Aside0.mk (Kd.C_below HC11.out hb2); have HB2 := Aside0.mk (below_then HB1.out HB1.out.size hb2); clear hn2 hb2)
          | ((with_reducible refine (Run_of _ m3 vx p x M (M : Int) rfl HM3.out HX3.out HZX.out HP.out HM.out).mono ?_); rw [HR.out]; rintro e4 w4 ⟨v4, rfl, hn4, hb4⟩; have HN4 := Aside0.mk hn4; have HN34 := Aside0.mk (Nd.keep (NK.below hb4) _ _ HN3.out); have HB4 := Aside0.mk (below_then HB3.out HB3.out.size hb4); clear hn4 hb4))
      | (go_at_call 30; refine (Equal_calls t t v2 v4 _ HN34.out HN4.out (by have := HZ.out; omega) (by have := HZ.out; omega)).mono ?_; rintro e5 w5 ⟨⟨v5, rfl, hv5⟩, hb5⟩; obtain rfl := hv5.2 rfl; have HB5 := Aside0.mk (below_then HB4.out HB4.out.size hb5); clear hb5 hv5))
    go_ret
    exact ⟨rfl, HB4.out⟩
theorem Follows_of (A1 A2 : Option Addr) (c1 c2 : Nat) (p q : Prg) (x y : Tr) (vx vy : Value) (m : Nat) (w : World) (mo : Int) (hmo : mo = ((m : Nat) : Int)) (hC1 : Kd.C k72 w A1 p.length p) (hC2 : Kd.C k72 w A2 q.length q)
    (hp : OKP p) (hq : OKP q) (hx : Nd w x vx) (hy : Nd w y vy) (zx : x.size ≤ 2000000) (zy : y.size ≤ 2000000) (hm : m ≤ 1000000) (hr : runM p x (20000 + m) = later m (runM q y 20000)) :
    Calls Tryz.prog 24 #[.slice A1 p.length c1, vx, .slice A2 q.length c2, vy, .int .i64 mo] w (Yes w) := by
  subst hmo; exact Follows_calls A1 A2 c1 c2 p q x y vx vy m w hC1 hC2 hp hq hx hy zx zy hm hr
end Go.Proofs.YtocoamgbpoommaaGreatDoor.C
end
section
namespace Go.Proofs.YtocoamgbpoommaaGreatDoor.C
open Go.RowKit Go.Proofs.YtocoamgbpoommaaGreatDoorW.PrintWords Go.Proofs.YtocoamgbpoommaaGreatDoorW.PrintLast Go.Proofs.YtocoamgbpoommaaGreatDoorW.PrintMore
attribute [local go_sem] max2_int min2_int max_two min_two max_three min_three max_four min_four
set_option linter.unusedVariables false
set_option linter.unusedSimpArgs false

/-! ### narcissusref08_Valid: function 13 -/
def narcissusref08_Valid.l0 : Nat → List (List (S72)) → Int → Option (Bool)
 | 0, _, _ => none
 | k + 1, x0, x3 => if x3 < (x0.length : Int) then (if 0 ≤ x3 then ((narcissusref02_Valid.f k (rd_L3 x0 x3)).bind fun t2 => (if t2 = true then (narcissusref08_Valid.l0 k x0 (wrap64 (x3 + 1))) else (some false))) else (none)) else (some true)
def narcissusref08_Valid.f (k : Nat) (l0 : List (List (S72))) : Option (Bool) := narcissusref08_Valid.l0 k l0 0
theorem narcissusref08_Valid.mono_l : ∀ k, (∀ y0 y1, LeO (narcissusref08_Valid.l0 k y0 y1) (narcissusref08_Valid.l0 (k + 1) y0 y1))
 | 0 => fun _ _ r h => by simp [narcissusref08_Valid.l0] at h
 | k + 1 => by
  have ih0 := narcissusref08_Valid.mono_l k
  ·intro y0 y1
   unfold narcissusref08_Valid.l0
   repeat' first
   | (with_reducible exact ih0 _ _)
   | (with_reducible exact narcissusref02_Valid.mono _ _)
   | (with_reducible exact LeO.refl _)
   | (with_reducible exact LeO.none _)
   | (with_reducible refine LeO.ite ?_ ?_)
   | (with_reducible refine LeO.bind ?_ (fun _ => ?_))
   | exact ih0 _ _
   | exact narcissusref02_Valid.mono _ _
   | exact LeO.none _
   | refine LeO.ite ?_ ?_
   | refine LeO.bind ?_ (fun _ => ?_)
theorem narcissusref08_Valid.mono : ∀ a0 k, LeO (narcissusref08_Valid.f k a0) (narcissusref08_Valid.f (k + 1) a0) := by
 intro a0 k
 have ih0 := narcissusref08_Valid.mono_l k
 unfold narcissusref08_Valid.f
 repeat' first
   | (with_reducible exact ih0 _ _)
   | (with_reducible exact narcissusref02_Valid.mono _ _)
   | (with_reducible exact LeO.refl _)
   | (with_reducible exact LeO.none _)
   | (with_reducible refine LeO.ite ?_ ?_)
   | (with_reducible refine LeO.bind ?_ (fun _ => ?_))
   | exact ih0 _ _
   | exact narcissusref02_Valid.mono _ _
   | exact LeO.none _
   | refine LeO.ite ?_ ?_
   | refine LeO.bind ?_ (fun _ => ?_)
set_option maxHeartbeats 8000000 in
set_option maxRecDepth 100000 in
theorem narcissusref08_Valid.calls (k : Nat) (A0 : Option Addr) (c0 : Nat) (l0 : List (List (S72))) (r : Bool) (w : World) (hr0 : Kd.C (Kd.slice 72 k72) w A0 l0.length l0) (hc0 : l0.length ≤ c0) (h : narcissusref08_Valid.f k l0 = some r) :
  Calls Tryz.prog 13 #[.slice A0 l0.length c0] w fun e w' => e = .returned (.bool r) ∧ Below w.heap.size w w' := by
 have HR0 := Aside0.mk hr0
 have HC0 := Aside0.mk hc0
 clear hr0 hc0
 have HB := Aside0.mk (Below.refl w.heap.size w)
 have H : (narcissusref08_Valid.l0 k l0 0) = some r := h
 clear h
 have H' := Aside0.mk H
 clear H
 go_enter Tryz.func13, Tryz.ntmps13
 go_wp2
 go_loopg [3] k (fun kq v3 w' => ∃ (x3_1 : Int), v3 = .int .i64 x3_1 ∧ Aside0 (narcissusref08_Valid.l0 kq l0 x3_1 = some r) ∧ Aside0 (kq ≤ k) ∧ Aside0 (Below w.heap.size w w'))
 case atStart => exact ⟨(0), (by first | rfl | (simp; done) | (simp [*]; done)), H', ⟨Nat.le_refl _⟩, ⟨by repeat (first | (with_reducible first | exact HB.out | apply below_alloc | apply pw_below_drewN | apply below_drew1) | exact HB.out)⟩⟩
 case round =>
  clear H'
  try clear c1
  obtain ⟨x3_1, rfl, HA, HK1, HB⟩ := hrel
  cases gk with
  | zero => exact absurd HA.out (by simp [narcissusref08_Valid.l0])
  | succ k1 =>
   have H := HA.out
   clear HA
   simp only [narcissusref08_Valid.l0] at H
   by_cases c2 : x3_1 < (l0.length : Int)
   ·rw [if_pos c2] at H
    have c2b0 : decide (x3_1 < (l0.length : Int)) = true := decide_eq_true c2
    clear c2
    by_cases c3 : 0 ≤ x3_1
    ·rw [if_pos c3] at H
     have c3b0 : decide (0 ≤ x3_1) = true := decide_eq_true c3
     clear c3
     replace H := Option.bind_eq_some_iff.mp H
     obtain ⟨t2, A40, H⟩ := H
     replace H : (if t2 = true then (narcissusref08_Valid.l0 k1 l0 (wrap64 (x3_1 + 1))) else (some false)) = some r := H
     have A4 := Aside0.mk A40
     clear A40
     by_cases c5 : t2 = true
     ·subst c5
      have H1 : (narcissusref08_Valid.l0 k1 l0 (wrap64 (x3_1 + 1))) = some r := by rw [if_pos rfl] at H; exact H
      clear H
      have H := H1
      clear H1
      have H' := Aside0.mk H
      clear H
      have p1 : 0 ≤ (x3_1 : Int) := of_decide_eq_true (by first | (with_reducible assumption) | assumption)
      have q1 : x3_1 < (l0.length : Int) := of_decide_eq_true (by first | (with_reducible assumption) | assumption)
      obtain ⟨ad1, A1_0, c1_0, e1, hx1_0, hl1_0, hi1_0⟩ := at_L3 HR0.out x3_1 p1 q1
      cases e1
      replace hx1_0 := (HB.out.cell (World.block_lt_of_cell? w _ hx1_0)).trans hx1_0
      have HR1_0 := Aside0.mk hi1_0
      have HC1_0 := Aside0.mk hl1_0
      clear hi1_0 hl1_0
      replace p1 := eq_true p1
      replace q1 := eq_true q1
      go_wp2_with (first | ((with_reducible refine gate_callee (f := 27) rfl ?_); refine goesL_ (some 14) rfl rfl Tryz.func27 (by kernel_rfl) rfl #[.slice A1_0 (rd_L3 l0 x3_1).length c1_0] rfl (by (try simp only [List.map_toArray, List.map_cons, List.map_nil]); first | done | rfl | (simp only [List.length_drop, List.length_take]; rfl)) ?_; (with_reducible refine (narcissusref02_Valid.calls k1 _ _ (rd_L3 l0 x3_1) true _ ?side1 ?side2 A4.out).mono ?_); (case side1 => repeat (first | exact (Kd.C_below HR1_0.out HB.out) | (with_reducible refine Kd.C_alloc ?_ _) | (with_reducible refine Kd.C_drewN ?_ _) | (with_reducible refine Kd.C_drew ?_))); (case side2 => exact HC1_0.out); rintro e w6 ⟨rfl, hb⟩; refine ⟨_, rfl, ?_⟩; have n0_ := Aside0.mk (below_step (by repeat (first | (with_reducible first | exact HB.out | apply below_alloc | apply pw_below_drewN | apply below_drew1) | exact HB.out)) hb); clear HB; have HB := n0_; clear n0_; (try clear hb); (try clear hb2); (try clear hk); (try clear hi)))
      go_roundg k1
      case measure => have := HK1.out; omega
      case rel => exact ⟨(wrap64 (x3_1 + 1)), (by first | rfl | (simp; done) | (simp [*]; done)), H', ⟨by have := HK1.out; omega⟩, ⟨by repeat (first | (with_reducible first | exact HB.out | apply below_alloc | apply pw_below_drewN | apply below_drew1) | exact HB.out)⟩⟩
     ·replace c5 := Bool.eq_false_iff.mpr c5
      subst c5
      have H1 : (some false) = some r := by rw [if_neg (show ¬ (false = true) by decide)] at H; exact H
      clear H
      have H := H1
      clear H1
      obtain rfl := Option.some.inj H
      have p1 : 0 ≤ (x3_1 : Int) := of_decide_eq_true (by first | (with_reducible assumption) | assumption)
      have q1 : x3_1 < (l0.length : Int) := of_decide_eq_true (by first | (with_reducible assumption) | assumption)
      obtain ⟨ad1, A1_0, c1_0, e1, hx1_0, hl1_0, hi1_0⟩ := at_L3 HR0.out x3_1 p1 q1
      cases e1
      replace hx1_0 := (HB.out.cell (World.block_lt_of_cell? w _ hx1_0)).trans hx1_0
      have HR1_0 := Aside0.mk hi1_0
      have HC1_0 := Aside0.mk hl1_0
      clear hi1_0 hl1_0
      replace p1 := eq_true p1
      replace q1 := eq_true q1
      go_wp2_with (first | ((with_reducible refine gate_callee (f := 27) rfl ?_); refine goesL_ (some 14) rfl rfl Tryz.func27 (by kernel_rfl) rfl #[.slice A1_0 (rd_L3 l0 x3_1).length c1_0] rfl (by (try simp only [List.map_toArray, List.map_cons, List.map_nil]); first | done | rfl | (simp only [List.length_drop, List.length_take]; rfl)) ?_; (with_reducible refine (narcissusref02_Valid.calls k1 _ _ (rd_L3 l0 x3_1) false _ ?side1 ?side2 A4.out).mono ?_); (case side1 => repeat (first | exact (Kd.C_below HR1_0.out HB.out) | (with_reducible refine Kd.C_alloc ?_ _) | (with_reducible refine Kd.C_drewN ?_ _) | (with_reducible refine Kd.C_drew ?_))); (case side2 => exact HC1_0.out); rintro e w7 ⟨rfl, hb⟩; refine ⟨_, rfl, ?_⟩; have n0_ := Aside0.mk (below_step (by repeat (first | (with_reducible first | exact HB.out | apply below_alloc | apply pw_below_drewN | apply below_drew1) | exact HB.out)) hb); clear HB; have HB := n0_; clear n0_; (try clear hb); (try clear hb2); (try clear hk); (try clear hi)))
      go_ret
      exact ⟨by first | rfl | (simp [errW_none, errW_some] <;> rfl) | (simp [*, errW_none, errW_some] <;> rfl), by repeat (first | (with_reducible first | exact HB.out | apply below_alloc | apply pw_below_drewN | apply below_drew1) | exact HB.out)⟩
    ·rw [if_neg c3] at H
     exact absurd H (by simp)
   ·rw [if_neg c2] at H
    have c2b0 : decide (x3_1 < (l0.length : Int)) = false := decide_eq_false c2
    clear c2
    obtain rfl := Option.some.inj H
    go_wp2
    go_ret
    exact ⟨by first | rfl | (simp [errW_none, errW_some] <;> rfl) | (simp [*, errW_none, errW_some] <;> rfl), by repeat (first | (with_reducible first | exact HB.out | apply below_alloc | apply pw_below_drewN | apply below_drew1) | exact HB.out)⟩

end Go.Proofs.YtocoamgbpoommaaGreatDoor.C
end
section
/- Lists of valid programs, as the reference looks at them. -/
namespace Go.Proofs.YtocoamgbpoommaaGreatDoor.Plain
open Go.Proofs.YtocoamgbpoommaaGreatDoor.C
open Go.RowKit Go.Proofs.YtocoamgbpoommaaGreatDoorW.PrintWords Go.Proofs.YtocoamgbpoommaaGreatDoorW.PrintLast Go.Proofs.YtocoamgbpoommaaGreatDoorW.PrintMore
set_option linter.unusedVariables false
set_option linter.unusedSimpArgs false

theorem validL_l (l : List (List Ins)) (hl : l.length ≤ 1000) (hf : ∀ p ∈ l, Fits p) : ∀ (d k i : Nat), l.length - i = d → i ≤ l.length → d + 4010000 < k →
    ∃ v, narcissusref08_Valid.l0 k l (i : Int) = some v ∧ (v = true ↔ ∀ p ∈ l.drop i, OKP p)
  | d, k, i, hd, hi, hk => by
    obtain ⟨k, rfl⟩ : ∃ m, k = m + 1 := ⟨k - 1, by omega⟩
    rw [narcissusref08_Valid.l0]
    by_cases h : i < l.length
    · have hdrop : l.drop i = l[i] :: l.drop (i + 1) := List.drop_eq_getElem_cons h
      rw [if_pos (by omega), if_pos (by omega), rd_prg l i h]
      obtain ⟨v, e, hv⟩ := refValidp_tells l[i] (hf _ (List.getElem_mem h)) k (by omega)
      rw [e, Option.bind_some, hdrop]
      cases v with
      | true =>
        obtain ⟨u, eu, hu⟩ := validL_l l hl hf (l.length - (i + 1)) k (i + 1) rfl (by omega) (by omega)
        rw [if_pos rfl, wrap_small (by omega) (by omega), show (i : Int) + 1 = ((i + 1 : Nat) : Int) from rfl, eu]
        refine ⟨u, rfl, hu.trans ⟨fun a p hp => ?_, fun a p hp => a p (List.mem_cons_of_mem _ hp)⟩⟩
        rcases List.mem_cons.1 hp with rfl | hp
        · exact hv.1 rfl
        · exact a p hp
      | false =>
        rw [if_neg (by decide)]
        exact ⟨false, rfl, fun h => (by cases h), fun a => hv.2 (a _ List.mem_cons_self)⟩
    · rw [if_neg (by omega), List.drop_eq_nil_of_le (by omega)]
      exact ⟨true, rfl, fun _ p hp => (by cases hp), fun _ => rfl⟩
  termination_by d => d
theorem validL_tells (l : List (List Ins)) (hl : l.length ≤ 1000) (hf : ∀ p ∈ l, Fits p) (k : Nat) (hk : 4020000 ≤ k) : ∃ v, narcissusref08_Valid.f k l = some v ∧ (v = true ↔ ∀ p ∈ l, OKP p) := by
  have := validL_l l hl hf l.length k 0 rfl (by omega) (by omega)
  exact this
theorem fitsL_fits {l : List (List Ins)} (h : FitsL l) : ∀ p ∈ l, Fits p := fun p hp x hx => by have := (h p hp).2 x hx; omega
end Go.Proofs.YtocoamgbpoommaaGreatDoor.Plain
end
section
/- The contract of the law RingKnows where Together returns programs. -/
namespace Go.Proofs.YtocoamgbpoommaaGreatDoor.C
open Go.RowKit Go.Proofs.YtocoamgbpoommaaGreatDoorW.PrintWords Go.Proofs.YtocoamgbpoommaaGreatDoorW.PrintLast Go.Proofs.YtocoamgbpoommaaGreatDoorW.PrintMore
open Go.Proofs.YtocoamgbpoommaaGreatDoor.Plain (Tr dec bl OKP codeL codeT codeT_size lstT runM ValidT later)
set_option linter.unusedVariables false
set_option linter.unusedSimpArgs false

theorem kn_small {m : Nat} {A : Option Addr} {c : Nat} {l : List Prg} {w : World} (hn : l.length = m) (hC : Kd.C (Kd.slice 72 k72) w A m l) (hc : m ≤ c) {v : Bool} {k : Nat} (h : narcissusref07_Small.f k 20000 l = some v) :
    Calls Tryz.prog 10 #[.int .i64 20000, .slice A m c] w fun e w' => e = .returned (.bool v) ∧ Drawn0 w w' := by
  subst hn; exact narcissusref07_Small.calls k 20000 A c l v w hC hc h
theorem kn_valid {m : Nat} {A : Option Addr} {c : Nat} {l : List Prg} {w : World} (hn : l.length = m) (hC : Kd.C (Kd.slice 72 k72) w A m l) (hc : m ≤ c) {v : Bool} {k : Nat} (h : narcissusref08_Valid.f k l = some v) :
    Calls Tryz.prog 13 #[.slice A m c] w fun e w' => e = .returned (.bool v) ∧ Below w.heap.size w w' := by
  subst hn; exact narcissusref08_Valid.calls k A c l v w hC hc h
theorem kn_tog {m : Nat} {A : Option Addr} {c : Nat} {l L : List Prg} {w : World} {ev : Int} (hn : l.length = m) (hC : Kd.C (Kd.slice 72 k72) w A m l) (hc : m ≤ c) (hL : LaidW w) {k : Nat} (h : ring_Together.f k l = some (L, ev)) :
    Calls Tryz.prog 15 #[.slice A m c] w fun e w' => ∃ v0_ : Value, e = .returned (.tuple #[v0_, .int .i64 ev]) ∧ Kd.S (Kd.slice 72 k72) 47 w' w.heap.size (fun _ => True) v0_ L ∧ Below w.heap.size w w' := by
  subst hn; exact ring_Together.calls k A c l L ev w hC hc hL h
set_option maxHeartbeats 8000000 in
set_option maxRecDepth 100000 in
theorem knows_ok (A : Option Addr) (c : Nat) (l : List Prg) (m : Nat) (x : ByteArray) (w : World) (hL : LaidW w) (hC : Kd.C (Kd.slice 72 k72) w A m l) (hcm : m ≤ c) (hn : l.length = m) (hm0 : 1 ≤ m) (hm : m ≤ 40)
    (hs : narcissusref07_Small.f 3000000 20000 l = some true) (h : ¬ (x.size : Int) > 20000) (hvl : narcissusref08_Valid.f 5000000 l = some true) (hv : ValidT x) (k : Nat) (L : List Prg) (hlen : L.length = m) (ht : ring_Together.f k l = some (L, 0))
    (hokl : ∀ p ∈ l, OKP p) (hok : ∀ p ∈ L, OKP p ∧ (codeL p).length ≤ 2000000)
    (hrun : 1 + (lstT (L.map codeT)).size + (dec (bl x)).size ≤ 2000000 → ∀ j (hj : j < m), runM (L[j]'(by omega)) (dec (bl x)) (20000 + (24 + 11 * m)) = later (24 + 11 * m) (runM (l[j]'(by omega)) (.cons (lstT (L.map codeT)) (dec (bl x))) 20000)) :
    Calls Tryz.prog 5 #[.slice A m c, .string x] w (Yes w) := by
  have t1 : decide (20000 < (x.size : Int)) = false := decide_eq_false h
  have t2 : decide ((m : Int) < 1) = false := decide_eq_false (by omega)
  have t3 : decide (40 < (m : Int)) = false := decide_eq_false (by omega)
  have hzx : (dec (bl x)).size = x.size := by rw [← Tr.enc_length, Plain.enc_dec hv.2]; exact Array.length_toList
  have hzl : (lstT (L.map codeT)).size ≤ 40 * (2000000 + 1) + 1 := by
    clear hrun ht hzx
    have h1 := lstT_size (b := 2000000) (L.map codeT) (fun t ht => by
      obtain ⟨p, hp, rfl⟩ := List.mem_map.1 ht
      rw [codeT_size (hok p hp).1]; exact (hok p hp).2)
    rw [List.length_map, hlen] at h1
    exact Nat.le_trans h1 (Nat.add_le_add_right (Nat.mul_le_mul_right _ hm) 1)
  have hIT : Plain.IsT x.data.toList ∧ x.size ≤ 100000000 := ⟨hv.2, by omega⟩
  have hcd := fun (A : Option Addr) (c : Nat) (w : World) (hC : Kd.C (Kd.slice 72 k72) w A m L) => codes_of (c := c) hC hlen hm hok
  rw [show (bl x) = x.data.toList from rfl] at hrun hzx
  generalize hT : dec x.data.toList = X at *
  generalize lstT (L.map codeT) = Y at *
  have HX : Aside0 (X.size ≤ 2000000 ∧ X.size ≤ 1000000000000) := ⟨by omega, by omega⟩
  have HYZ : Aside0 (Y.size ≤ 1000000000000) := ⟨by omega⟩
  have HT := Aside0.mk hT
  have HL := Aside0.mk hL
  have HC0 := Aside0.mk hC
  have HCM := Aside0.mk hcm
  have HN := Aside0.mk hn
  have HS := Aside0.mk hs
  have HVL := Aside0.mk hvl
  have HV := Aside0.mk (refValid_yes hv)
  have HTG := Aside0.mk ht
  have HOKL := Aside0.mk hokl
  have HOK := Aside0.mk hok
  have HRUN := Aside0.mk hrun
  have HLEN := Aside0.mk hlen
  have HIT := Aside0.mk hIT
  have HCD := Aside0.mk hcd
  have hx1 : (X.size : Int) ≤ 20000 := by omega
  have hy1 : (Y.size : Int) ≤ 80000041 := by omega
  clear hL hv ht hok hrun hIT hT h hzx hzl hC hcm hs hvl hokl hcd
  by_cases hbig : 1 + (Y.size : Int) + (X.size : Int) ≤ 2000000
  · have t4 : decide (1 + (Y.size : Int) + (X.size : Int) ≤ 2000000) = true := decide_eq_true hbig
    have HRUN2 := Aside0.mk (HRUN.out (by omega))
    have HPZ : Aside0 ((Tr.cons Y X).size ≤ 2000000) := ⟨by show 1 + Y.size + X.size ≤ _; omega⟩
    clear hbig HRUN
    go_enter Tryz.func5, Tryz.ntmps5
    go_wp2_with (first
      | (go_at_call 10; (with_reducible refine (kn_small HN.out HC0.out HCM.out HS.out).mono ?_); rintro e w1 ⟨rfl, ⟨n1, rfl⟩⟩; have HB1 := Aside0.mk (pw_below_drewN (Below.refl w.heap.size w) n1))
      | (go_at_call 13; (with_reducible refine (kn_valid HN.out (Kd.C_below HC0.out HB1.out) HCM.out HVL.out).mono ?_); rintro e w2 ⟨rfl, hb2⟩; have HB2 := Aside0.mk (below_then HB1.out HB1.out.size hb2); clear hb2)
      | (go_at_call 20; (with_reducible refine (narcissusref01_Valid.calls 5000000 x true _ HV.out).mono ?_); rintro e w3 ⟨rfl, n3, rfl⟩; have HB3 := Aside0.mk (pw_below_drewN HB2.out n3))
      | (go_at_call 15; (with_reducible refine (kn_tog HN.out (Kd.C_below HC0.out HB3.out) HCM.out (HL.out.below HB3.out) HTG.out).mono ?_); rintro e' w4 ⟨vl, rfl, hs, hb4⟩; have hs1 := Kd.S_R hs; obtain ⟨A4, c4, hvl, hcap, hC4⟩ := Kd.R_reads hs1; rw [HLEN.out] at hvl hcap hC4; subst hvl; have HC4 := Aside0.mk hC4; have HB4 := Aside0.mk (below_then HB3.out HB3.out.size hb4); clear hs hs1 hb4 hC4 hcap)
      | (go_at_call 21; (with_reducible refine (HCD.out A4 c4 _ HC4.out).mono ?_); rintro e w5 ⟨vy, rfl, hy, hb5⟩; have HNY := Aside0.mk hy; have HC5 := Aside0.mk (Kd.C_below HC4.out hb5); have HB5 := Aside0.mk (below_then HB4.out HB4.out.size hb5); clear hy hb5)
      | (go_at_call 22; (with_reducible refine (Read_calls x _ HIT.out.1 HIT.out.2).mono ?_); rintro e w6 ⟨vx, rfl, hx, hb6⟩; rw [HT.out] at hx; have HNX := Aside0.mk hx; have HNY6 := Aside0.mk (Nd.keep (NK.below hb6) _ _ HNY.out); have HC6 := Aside0.mk (Kd.C_below HC5.out hb6); have HB6 := Aside0.mk (below_then HB5.out HB5.out.size hb6); clear hx hb6)
      | (go_at_call 23; (with_reducible refine (Cons_calls Y X vy vx _ HNY6.out HNX.out HYZ.out HX.out.2).mono ?_); rintro e w7 ⟨u, rfl, hu, hb7⟩; have HU := Aside0.mk hu; have HNX7 := Aside0.mk (Nd.keep (NK.below hb7) _ _ HNX.out); have HC7 := Aside0.mk (Kd.C_below HC6.out hb7); have HB7 := Aside0.mk (below_then HB6.out HB6.out.size hb7); obtain ⟨g, va, vb, rfl, hg, _, _⟩ := hu; have c2 := (blk_cell hg 2).trans rfl; clear hg hb7))
    have C2 := Aside0.mk c2
    clear c2
    go_loopg [11] (m + 1) (fun kq v11 wr => ∃ i : Nat, v11 = .int .i64 i ∧ i ≤ m ∧ Aside0 (kq = m - i + 1) ∧ Aside0 (Below w7.heap.size w7 wr))
    case atStart => exact ⟨0, rfl, Nat.zero_le _, ⟨by omega⟩, ⟨Below.refl _ _⟩⟩
    case round =>
      obtain ⟨i, rfl, hi, HI, HBR⟩ := hrel
      have HBW := Aside0.mk (below_then HB7.out HB7.out.size HBR.out)
      by_cases hlt : i < m
      · obtain ⟨ad1, A1, c1, rfl, cl1, hle1, hC1⟩ := prg_at HC7.out HLEN.out (i : Int) i rfl hlt
        obtain ⟨ad2, A2, c2, rfl, cl2, hle2, hC2⟩ := prg_at HC0.out HN.out (i : Int) i rfl hlt
        have b2 : (i : Int) < (m : Int) := by omega
        have b3 : (0 : Int) ≤ (i : Int) := by omega
        have hlL := HLEN.out
        have hlN := HN.out
        have HP1 := Aside0.mk (HOK.out (L[i]'(by omega)) (List.getElem_mem _))
        have HP2 := Aside0.mk (HOKL.out (l[i]'(by omega)) (List.getElem_mem _))
        have hrn := HRUN2.out i hlt
        generalize (L[i]'(by omega)) = q at *
        generalize (l[i]'(by omega)) = p at *
        have HRN := Aside0.mk hrn
        rw [Int.toNat_natCast] at cl1 cl2
        replace cl1 := pw_cell_below HBR.out cl1
        replace cl2 := pw_cell_below HBW.out cl2
        have c2r := pw_cell_below HBR.out C2.out
        have HC1 := Aside0.mk (Kd.C_below hC1 HBR.out)
        have HC2 := Aside0.mk (Kd.C_below hC2 HBW.out)
        have HNXR := Aside0.mk (Nd.keep (NK.below HBR.out) _ _ HNX7.out)
        have HUR := Aside0.mk (Nd.keep (NK.below HBR.out) _ _ HU.out)
        obtain ⟨k2, rfl⟩ : ∃ k2, gk = k2 + 1 := ⟨gk - 1, by have := HI.out; omega⟩
        clear hC1 hC2 hle1 hle2 hrn hlL hlN
        have hM : (24 : Int) + 11 * (m : Int) = ((24 + 11 * m : Nat) : Int) := by omega
        have HM := Aside0.mk hM
        have HM2 : Aside0 (IntKind.i64.wrap (24 + IntKind.i64.wrap (11 * (m : Int))) = ((24 + 11 * m : Nat) : Int)) := ⟨by rw [IntWalk.i64_in (11 * (m : Int)) (by omega), IntWalk.i64_in _ (by omega)]; exact hM⟩
        clear hM
        by_cases hskip : 2 < i ∧ i + 1 < m
        · have t5 : decide (2 < (i : Int)) = true := decide_eq_true (by omega)
          have t6 : decide ((i : Int) < (m : Int) - 1) = true := decide_eq_true (by omega)
          clear hskip
          go_wp2
          go_roundg k2
          case measure => omega
          case rel => exact ⟨i + 1, by go_num, by omega, ⟨by have := HI.out; omega⟩, HBR⟩
        · have t5 : decide (2 < (i : Int)) = false ∨ decide (2 < (i : Int)) = true ∧ decide ((i : Int) < (m : Int) - 1) = false := by
            by_cases h : 2 < i
            · exact .inr ⟨decide_eq_true (by omega), decide_eq_false (by omega)⟩
            · exact .inl (decide_eq_false (by omega))
          clear hskip
          rcases t5 with t5 | ⟨t5, t6⟩
          all_goals
            go_wp2
            go_region_held3 (fun w' => w'.cell? (ad1.add i) = some (.slice A1 q.length c1) ∧ w'.cell? (ad2.add i) = some (.slice A2 p.length c2))
              (first
                | go_keep
                | exact ⟨pw_cell_below hb8 cl1, pw_cell_below hb8 cl2⟩)
              (first | (go_at_call 24; go_loud (refine (Follows_of A1 A2 c1 c2 q p X (.cons Y X) vx _ (24 + 11 * m) _ _ (by first | exact HM.out | exact HM2.out) (Kd.C_below HC1.out (below_drew (Below.refl _ _))) (Kd.C_below HC2.out (below_drew (Below.refl _ _))) HP1.out.1 HP2.out (Nd.keep (NK.drew _) _ _ HNXR.out) (Nd.keep (NK.drew _) _ _ HUR.out) HX.out.1 HPZ.out (by omega) HRN.out).mono ?_; rintro e w8 ⟨rfl, hb8⟩)))
            have HB8 : Aside0 (Below w7.heap.size w7 w8) := ⟨below_then (below_drew HBR.out) HBR.out.size hb8⟩
            clear hb8
            go_wp2
            go_roundg k2
            case measure => omega
            case rel => exact ⟨i + 1, by go_num, by omega, ⟨by have := HI.out; omega⟩, HB8⟩
      · obtain rfl : i = m := by omega
        go_wp2_with (go_at_call 11; (with_reducible refine (awake_calls _ (HL.out.below HBW.out)).mono ?_); rintro e w9 ⟨rfl, hb⟩; have HB9 := Aside0.mk (below_then HBW.out HBW.out.size hb); clear hb)
        go_ret
        exact ⟨rfl, HB9.out⟩
  · have t4 : decide (1 + (Y.size : Int) + (X.size : Int) ≤ 2000000) = false := decide_eq_false hbig
    have b2 : (0 : Int) < (m : Int) := by omega
    clear hbig HRUN
    go_enter Tryz.func5, Tryz.ntmps5
    go_wp2_with (first
      | (go_at_call 10; (with_reducible refine (kn_small HN.out HC0.out HCM.out HS.out).mono ?_); rintro e w1 ⟨rfl, ⟨n1, rfl⟩⟩; have HB1 := Aside0.mk (pw_below_drewN (Below.refl w.heap.size w) n1))
      | (go_at_call 13; (with_reducible refine (kn_valid HN.out (Kd.C_below HC0.out HB1.out) HCM.out HVL.out).mono ?_); rintro e w2 ⟨rfl, hb2⟩; have HB2 := Aside0.mk (below_then HB1.out HB1.out.size hb2); clear hb2)
      | (go_at_call 20; (with_reducible refine (narcissusref01_Valid.calls 5000000 x true _ HV.out).mono ?_); rintro e w3 ⟨rfl, n3, rfl⟩; have HB3 := Aside0.mk (pw_below_drewN HB2.out n3))
      | (go_at_call 15; (with_reducible refine (kn_tog HN.out (Kd.C_below HC0.out HB3.out) HCM.out (HL.out.below HB3.out) HTG.out).mono ?_); rintro e' w4 ⟨vl, rfl, hs, hb4⟩; have hs1 := Kd.S_R hs; obtain ⟨A4, c4, hvl, hcap, hC4⟩ := Kd.R_reads hs1; rw [HLEN.out] at hvl hcap hC4; subst hvl; have HC4 := Aside0.mk hC4; have HB4 := Aside0.mk (below_then HB3.out HB3.out.size hb4); clear hs hs1 hb4 hC4 hcap)
      | (go_at_call 21; (with_reducible refine (HCD.out A4 c4 _ HC4.out).mono ?_); rintro e w5 ⟨vy, rfl, hy, hb5⟩; have HNY := Aside0.mk hy; have HC5 := Aside0.mk (Kd.C_below HC4.out hb5); have HB5 := Aside0.mk (below_then HB4.out HB4.out.size hb5); clear hy hb5)
      | (go_at_call 22; (with_reducible refine (Read_calls x _ HIT.out.1 HIT.out.2).mono ?_); rintro e w6 ⟨vx, rfl, hx, hb6⟩; rw [HT.out] at hx; have HNX := Aside0.mk hx; have HNY6 := Aside0.mk (Nd.keep (NK.below hb6) _ _ HNY.out); have HC6 := Aside0.mk (Kd.C_below HC5.out hb6); have HB6 := Aside0.mk (below_then HB5.out HB5.out.size hb6); clear hx hb6)
      | (go_at_call 23; (with_reducible refine (Cons_calls Y X vy vx _ HNY6.out HNX.out HYZ.out HX.out.2).mono ?_); rintro e w7 ⟨u, rfl, hu, hb7⟩; have HB7 := Aside0.mk (below_then HB6.out HB6.out.size hb7); obtain ⟨g, va, vb, rfl, hg, _, _⟩ := hu; have c2 := (blk_cell hg 2).trans rfl; clear hg hb7))
    go_loopg [11] 1 (fun kq v11 wr => v11 = .int .i64 0 ∧ wr = w7)
    case atStart => exact ⟨rfl, rfl⟩
    case round =>
      obtain ⟨rfl, rfl⟩ := hrel
      go_wp2_with (go_at_call 11; (with_reducible refine (awake_calls _ (HL.out.below HB7.out)).mono ?_); rintro e w9 ⟨rfl, hb⟩; have HB9 := Aside0.mk (below_then HB7.out HB7.out.size hb); clear hb)
      go_ret
      exact ⟨rfl, HB9.out⟩
end Go.Proofs.YtocoamgbpoommaaGreatDoor.C
end
section
/- The law RingKnows: what it returns, for every list and every text. -/
namespace Go.Proofs.YtocoamgbpoommaaGreatDoor.C
open Go.RowKit Go.Proofs.YtocoamgbpoommaaGreatDoorW.PrintWords Go.Proofs.YtocoamgbpoommaaGreatDoorW.PrintLast Go.Proofs.YtocoamgbpoommaaGreatDoorW.PrintMore
open Go.Proofs.YtocoamgbpoommaaGreatDoor.Plain (Tr dec bl OKP codeL codeT codeT_size lstT runM ValidT later FitsL fitsL_fits validL_tells small_tells together_yes together_large Fine madeL behind made_length behind_length knows_run)
set_option linter.unusedVariables false
set_option linter.unusedSimpArgs false

set_option maxHeartbeats 8000000 in
set_option maxRecDepth 100000 in
/-- Where the law looks at the example alone. -/
theorem knows_out (A : Option Addr) (c : Nat) (l : List Prg) (m : Nat) (x : ByteArray) (w : World) (hL : LaidW w) (hC : Kd.C (Kd.slice 72 k72) w A m l) (hcm : m ≤ c) (hn : l.length = m)
    (hg : m < 1 ∨ (1 ≤ m ∧ 40 < m) ∨ (1 ≤ m ∧ m ≤ 40 ∧ narcissusref07_Small.f 3000000 20000 l = some false) ∨ (1 ≤ m ∧ m ≤ 40 ∧ narcissusref07_Small.f 3000000 20000 l = some true ∧ (x.size : Int) > 20000)
      ∨ (1 ≤ m ∧ m ≤ 40 ∧ narcissusref07_Small.f 3000000 20000 l = some true ∧ ¬ (x.size : Int) > 20000 ∧ narcissusref08_Valid.f 5000000 l = some false)
      ∨ (1 ≤ m ∧ m ≤ 40 ∧ narcissusref07_Small.f 3000000 20000 l = some true ∧ ¬ (x.size : Int) > 20000 ∧ narcissusref08_Valid.f 5000000 l = some true ∧ narcissusref01_Valid.f 5000000 x = some false)
      ∨ (1 ≤ m ∧ m ≤ 40 ∧ narcissusref07_Small.f 3000000 20000 l = some true ∧ ¬ (x.size : Int) > 20000 ∧ narcissusref08_Valid.f 5000000 l = some true ∧ narcissusref01_Valid.f 5000000 x = some true ∧ ∃ k, ring_Together.f k l = some ([], 3))) :
    Calls Tryz.prog 5 #[.slice A m c, .string x] w (Yes w) := by
  have HB := Aside0.mk (Below.refl w.heap.size w)
  have HL := Aside0.mk hL
  have HC0 := Aside0.mk hC
  have HCM := Aside0.mk hcm
  have HN := Aside0.mk hn
  clear hL hC hcm
  rcases hg with h1 | ⟨h1, h2⟩ | ⟨h1, h2, h3⟩ | ⟨h1, h2, h3, h4⟩ | ⟨h1, h2, h3, h4, h5⟩ | ⟨h1, h2, h3, h4, h5, h6⟩ | ⟨h1, h2, h3, h4, h5, h6, k, h7⟩
  case' inl => have t1 : decide ((m : Int) < 1) = true := decide_eq_true (by omega); clear h1
  case' inr.inl => have t1 : decide ((m : Int) < 1) = false := decide_eq_false (by omega); have t2 : decide (40 < (m : Int)) = true := decide_eq_true (by omega); clear h1 h2
  case' inr.inr.inl => have HS := Aside0.mk h3; clear h3
  case' inr.inr.inr.inl => have HS := Aside0.mk h3; have t3 : decide (20000 < (x.size : Int)) = true := decide_eq_true h4; clear h3 h4
  case' inr.inr.inr.inr.inl => have HS := Aside0.mk h3; have t3 : decide (20000 < (x.size : Int)) = false := decide_eq_false h4; have HVL := Aside0.mk h5; clear h3 h4 h5
  case' inr.inr.inr.inr.inr.inl => have HS := Aside0.mk h3; have t3 : decide (20000 < (x.size : Int)) = false := decide_eq_false h4; have HVL := Aside0.mk h5; have HV := Aside0.mk h6; clear h3 h4 h5 h6
  case' inr.inr.inr.inr.inr.inr => have HS := Aside0.mk h3; have t3 : decide (20000 < (x.size : Int)) = false := decide_eq_false h4; have HVL := Aside0.mk h5; have HV := Aside0.mk h6; have HTG := Aside0.mk h7; clear h3 h4 h5 h6 h7
  all_goals
    try
      have t1 : decide ((m : Int) < 1) = false := decide_eq_false (by omega)
      have t2 : decide (40 < (m : Int)) = false := decide_eq_false (by omega)
      clear h1 h2
    go_enter Tryz.func5, Tryz.ntmps5
    go_wp2_with (first
      | (go_at_call 10; (with_reducible refine (kn_small HN.out (Kd.C_below HC0.out HB.out) HCM.out HS.out).mono ?_); rintro e w1 ⟨rfl, ⟨n1, rfl⟩⟩; have HB := Aside0.mk (pw_below_drewN HB.out n1))
      | (go_at_call 13; (with_reducible refine (kn_valid HN.out (Kd.C_below HC0.out HB.out) HCM.out HVL.out).mono ?_); rintro e w2 ⟨rfl, hb2⟩; have HB := Aside0.mk (below_then HB.out HB.out.size hb2); clear hb2)
      | (go_at_call 20; (with_reducible refine (narcissusref01_Valid.calls 5000000 x _ _ HV.out).mono ?_); rintro e w3 ⟨rfl, n3, rfl⟩; have HB := Aside0.mk (pw_below_drewN HB.out n3))
      | (go_at_call 15; (with_reducible refine (kn_tog HN.out (Kd.C_below HC0.out HB.out) HCM.out (HL.out.below HB.out) HTG.out).mono ?_); rintro e' w4 ⟨vl, rfl, hs, hb4⟩; have HB := Aside0.mk (below_then HB.out HB.out.size hb4); clear hs hb4)
      | (go_at_call 11; (with_reducible refine (awake_calls _ (HL.out.below HB.out)).mono ?_); rintro e w9 ⟨rfl, hb⟩; have HB := Aside0.mk (below_then HB.out HB.out.size hb); clear hb))
    go_ret
    exact ⟨rfl, HB.out⟩
/-- The law's contract. -/
theorem narcissuslaw08_RingKnows.calls (A : Option Addr) (c : Nat) (l : List Prg) (x : ByteArray) (w : World) (hC : Kd.C (Kd.slice 72 k72) w A l.length l) (hc : l.length ≤ c) (hL : LaidW w) (hf : FitsL l) :
    Calls Tryz.prog 5 #[.slice A l.length c, .string x] w fun e w' => e = .returned (.bool true) ∧ Below w.heap.size w w' := by
  show Calls _ _ _ _ (Yes w)
  have out := knows_out A c l l.length x w hL hC hc rfl
  by_cases h1 : l.length < 1
  · exact out (.inl h1)
  replace h1 : 1 ≤ l.length := by omega
  by_cases h2 : 40 < l.length
  · exact out (.inr (.inl ⟨h1, h2⟩))
  replace h2 : l.length ≤ 40 := by omega
  obtain ⟨v, e3, _⟩ := small_tells l h2 hf 3000000 (by omega)
  cases v with
  | false => exact out (.inr (.inr (.inl ⟨h1, h2, e3⟩)))
  | true =>
  by_cases h4 : (x.size : Int) > 20000
  · exact out (.inr (.inr (.inr (.inl ⟨h1, h2, e3, h4⟩))))
  obtain ⟨v, e5, hv⟩ := validL_tells l (by omega) (fitsL_fits hf) 5000000 (by omega)
  cases v with
  | false => exact out (.inr (.inr (.inr (.inr (.inl ⟨h1, h2, e3, h4, e5⟩)))))
  | true =>
  replace hv := hv.1 rfl
  by_cases h6 : ValidT x
  · by_cases hfn : Fine l
    · refine knows_ok A c l l.length x w hL hC hc rfl h1 h2 e3 h4 e5 h6 6000 (madeL (behind l)) (by rw [made_length, behind_length]) (together_yes hv h1 h2 hfn 6000 (by omega)) hv (fun p hp => ⟨hfn.2.1 p hp, ?_⟩) (fun hz j hj => knows_run l hv hfn j hj _ hz)
      have h5 := lsum_mem hp
      have h6 := hfn.2.2
      omega
    · exact out (.inr (.inr (.inr (.inr (.inr (.inr ⟨h1, h2, e3, h4, e5, refValid_yes h6, _, together_large hv h1 h2 hfn 6000 (by omega)⟩))))))
  · exact out (.inr (.inr (.inr (.inr (.inr (.inl ⟨h1, h2, e3, h4, e5, refValid_no h6⟩))))))
end Go.Proofs.YtocoamgbpoommaaGreatDoor.C
end
