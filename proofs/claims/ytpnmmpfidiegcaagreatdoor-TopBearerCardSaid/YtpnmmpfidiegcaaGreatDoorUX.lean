/- Texts of this claim, together: what the functions return, and what they say in plain words. -/
import Derived.Test.YtpnmmpfidiegcaaGreatDoorUW
import Derived.Test.YtpnmmpfidiegcaaGreatDoorCards
import Derived.Test.YtpnmmpfidiegcaaGreatDoorTie
import Derived.Test.YtpnmmpfidiegcaaGreatDoorUC
import Derived.WalkKit
import Derived.ProofKit
import Derived.OpenShut
import Derived.ShutString
import Derived.ChangeOld
import Derived.Below
import Derived.SizedLaws
import Derived.Deep.DeepHandedRow
import Derived.Lib.LaidTab
import Derived.Stop.LaidErr
import Derived.Shelf.Vars
import Derived.Lay
import Derived.Deep.Slices
section
namespace Go.Proofs.YtpnmmpfidiegcaaGreatDoor.C
open Go.RowKit Go.Proofs.YtpnmmpfidiegcaaGreatDoorW.PrintWords Go.Proofs.YtpnmmpfidiegcaaGreatDoorW.PrintLast Go.Proofs.YtpnmmpfidiegcaaGreatDoorW.PrintMore
open Go.Proofs.YtpnmmpfidiegcaaGreatDoor.Plain (Tr OKP runM codeT dec okp_iff bearQ madeK FineK fineK_small bears_run runM_exact runM_how topT_yes bearT_yes Under)
set_option linter.unusedVariables false
set_option linter.unusedSimpArgs false
def FitsP (l : Prg) : Prop := l.length * 48 ≤ 140737488351232 ∧ ∀ i ∈ l, i.f4.size ≤ 140737488351232
theorem play_end {A : Option Addr} {c m : Nat} {p : Prg} {t y : Tr} {x : Value} {n : Nat} (k : Nat) (N : Int) {w : World} (hN : N = (k : Int)) (hm : p.length = m) (hC : Kd.C k52 w A m p) (hp : OKP p) (hx : Nd w t x) (hz : t.size ≤ 2000000) (hk : k ≤ 1000000000) (hr : runM p t k = (y, n, 0)) :
    Calls Tryz.prog 14 #[.slice A m c, x, .int .i64 N] w fun e w' => ∃ v, e = .returned (.tuple #[v, .int .i64 (n : Int), .int .i64 0]) ∧ Nd w' y v ∧ Below w.heap.size w w' := by
  refine (play_to k N hN hm hC hp hx hz hk).mono ?_
  rw [hr]
  rintro e w' ⟨hb, ⟨_, v, rfl, hv⟩ | ⟨h0, _⟩ | ⟨h0, _⟩⟩
  · exact ⟨v, rfl, hv, hb⟩
  · exact absurd h0 (show ¬ ((0 : Int) = 7) by decide)
  · exact absurd h0 (show ¬ ((0 : Int) = 3) by decide)
theorem play_on {A : Option Addr} {c m : Nat} {p : Prg} {t : Tr} {x : Value} (k : Nat) (N : Int) {w : World} (hN : N = (k : Int)) (hm : p.length = m) (hC : Kd.C k52 w A m p) (hp : OKP p) (hx : Nd w t x) (hz : t.size ≤ 2000000) (hk : k ≤ 1000000000) (hr : (runM p t k).2.2 = 7) :
    Calls Tryz.prog 14 #[.slice A m c, x, .int .i64 N] w fun e w' => ∃ n : Int, e = .returned (.tuple #[.pointer none, .int .i64 n, .int .i64 1]) ∧ Below w.heap.size w w' := by
  refine (play_to k N hN hm hC hp hx hz hk).mono ?_
  rintro e w' ⟨hb, ⟨h0, _⟩ | ⟨_, n, rfl⟩ | ⟨h0, _⟩⟩
  · rw [hr] at h0; exact absurd h0 (by decide)
  · exact ⟨n, rfl, hb⟩
  · rw [hr] at h0; exact absurd h0 (by decide)
theorem play_large {A : Option Addr} {c m : Nat} {p : Prg} {t : Tr} {x : Value} (k : Nat) (N : Int) {w : World} (hN : N = (k : Int)) (hm : p.length = m) (hC : Kd.C k52 w A m p) (hp : OKP p) (hx : Nd w t x) (hz : t.size ≤ 2000000) (hk : k ≤ 1000000000) (hr : (runM p t k).2.2 = 3) :
    Calls Tryz.prog 14 #[.slice A m c, x, .int .i64 N] w fun e w' => ∃ n : Int, e = .returned (.tuple #[.pointer none, .int .i64 n, .int .i64 2]) ∧ Below w.heap.size w w' := by
  refine (play_to k N hN hm hC hp hx hz hk).mono ?_
  rintro e w' ⟨hb, ⟨h0, _⟩ | ⟨h0, _⟩ | ⟨_, n, rfl⟩⟩
  · rw [hr] at h0; exact absurd h0 (by decide)
  · rw [hr] at h0; exact absurd h0 (by decide)
  · exact ⟨n, rfl, hb⟩
theorem tp_twin {A : Option Addr} {c m : Nat} {p : Prg} {w : World} (hm : p.length = m) (hC : Kd.C k52 w A m p) (hc : m ≤ c) (hl : m ≤ 4000) :
    Calls Tryz.prog 9 #[.slice A m c] w fun e w' => ∃ A' c', e = .returned (.slice A' m c') ∧ m ≤ c' ∧ Kd.C k52 w' A' m p ∧ Below w.heap.size w w' := by
  subst hm
  refine (narcissustop_twin.calls A c p p w hC hc (by unfold narcissustop_twin.f; rw [Option.bind_some, if_pos (by simp; omega)]; rfl)).mono ?_
  rintro e w' ⟨v, rfl, hR, hb⟩
  obtain ⟨A', c', rfl, hcap, hC'⟩ := Kd.R_reads hR
  exact ⟨A', c', rfl, hcap, hC', hb⟩
theorem tp_regs {A : Option Addr} {c m n : Nat} {p : Prg} {w : World} (hm : p.length = m) (hC : Kd.C k52 w A m p) (hc : m ≤ c) (h : narcissustop_regs.f 10000 p = some (n : Int)) :
    Calls Tryz.prog 19 #[.slice A m c] w fun e w' => e = .returned (.int .i64 (n : Int)) ∧ Below w.heap.size w w' := by
  subst hm
  exact narcissustop_regs.calls 10000 A c p _ w hC hc h
theorem tp_bearer {A : Option Addr} {c m n : Nat} {p E : Prg} {w : World} (hm : p.length = m) (hn : E.length = n) (hC : Kd.C k52 w A m p) (hc : m ≤ c) (h : ring_Bearer.f 10000 p = some (E, 0)) :
    Calls Tryz.prog 20 #[.slice A m c] w fun e w' => ∃ A' c', e = .returned (.tuple #[.slice A' n c', .int .i64 0]) ∧ Kd.C k52 w' A' n E ∧ Below w.heap.size w w' := by
  subst hm hn
  refine (ring_Bearer.calls 10000 A c p E 0 w hC hc h).mono ?_
  rintro e w' ⟨v, rfl, hR, hb⟩
  obtain ⟨A', c', rfl, hcap, hC'⟩ := Kd.R_reads hR
  exact ⟨A', c', rfl, hC', hb⟩
theorem goodp_okp {p : Prg} {a b : Nat} (h : GoodP p a b) (ha : a ≤ 4000) (hb : b ≤ 2000000) : OKP p := okp_iff.2 ⟨by have := h.1; omega, by have := h.2.1; omega, h.2.2⟩
set_option maxHeartbeats 2000000 in
theorem bear_out (A : Option Addr) (c m : Nat) (p : Prg) (x : ByteArray) (w : World) (hm : p.length = m) (hC : Kd.C k52 w A m p) (hc : m ≤ c) (hL : LaidW w) (hf : FitsP p)
    (h : ¬ GoodP p 200 5000 ∨ (GoodP p 200 5000 ∧ ∃ n : Nat, narcissustop_regs.f 10000 p = some (n : Int) ∧ ((28 : Int) < n ∨ ¬ ((28 : Int) < n) ∧ ¬ GrowOk x 2000))) :
    Calls Tryz.prog 5 #[.slice A m c, .string x] w (Yes w) := by
  have HL := Aside0.mk hL
  have HM := Aside0.mk hm
  have HC := Aside0.mk hC
  have HCC := Aside0.mk hc
  have HF := Aside0.mk hf.2
  have HK : Aside0 ((200 : Int) = ((200 : Nat) : Int) ∧ (5000 : Int) = ((5000 : Nat) : Int) ∧ 200 ≤ 4000 ∧ 5000 ≤ 2000000 ∧ (GrowOk x 2000 → x.size ≤ 100000000) ∧ (2000 : Int) ≤ 100000000) := ⟨rfl, rfl, by decide, by decide, fun h => by have := h.1; omega, by decide⟩
  have HB := Aside0.mk (Below.refl w.heap.size w)
  rcases h with h | ⟨hgd, n, hn, h | ⟨h, hx⟩⟩
  case' inl => have HG := Aside0.mk h; clear h
  case' inr.inl => have HG := Aside0.mk hgd; have HR := Aside0.mk hn; have t1 : decide ((28 : Int) < (n : Int)) = true := decide_eq_true h; clear h hgd hn
  case' inr.inr => have HG := Aside0.mk hgd; have HR := Aside0.mk hn; have t1 : decide ((28 : Int) < (n : Int)) = false := decide_eq_false h; have HXN := Aside0.mk hx; clear h hgd hn hx
  all_goals
    by_cases hg : GrowOk x 2000
    all_goals try exact absurd hg HXN.out
    all_goals
      have HGR := Aside0.mk hg
      clear hL hC hc hf hg hm
      go_enter Tryz.func5, Tryz.ntmps5
      go_wp2_with (first
        | (go_at_call 6; first
            | ((with_reducible refine (grow_no x 2000 _ HGR.out HK.out.2.2.2.2.2).mono ?_); rintro e w1 ⟨rfl, hb⟩; have HB := Aside0.mk (below_then HB.out HB.out.size hb); clear hb)
            | ((with_reducible refine (grow_yes x 2000 _ HGR.out (HK.out.2.2.2.2.1 HGR.out)).mono ?_); rintro e w1 ⟨vx, rfl, hx, hb⟩; have HB := Aside0.mk (below_then HB.out HB.out.size hb); clear hb))
        | (go_at_call 8; first
            | ((with_reducible refine (good_no HM.out (Kd.C_below HC.out HB.out) HK.out.2.2.1 HK.out.2.2.2.1 HF.out HG.out 200 5000 HK.out.1 HK.out.2.1).mono ?_); rintro e w1 ⟨rfl, hb⟩; have HB := Aside0.mk (below_then HB.out HB.out.size hb); clear hb)
            | ((with_reducible refine (good_yes HM.out (Kd.C_below HC.out HB.out) HK.out.2.2.1 HK.out.2.2.2.1 HF.out HG.out 200 5000 HK.out.1 HK.out.2.1).mono ?_); rintro e w1 ⟨rfl, hb⟩; have HB := Aside0.mk (below_then HB.out HB.out.size hb); clear hb))
        | (go_at_call 19; (with_reducible refine (tp_regs HM.out (Kd.C_below HC.out HB.out) HCC.out HR.out).mono ?_); rintro e w1 ⟨rfl, hb⟩; have HB := Aside0.mk (below_then HB.out HB.out.size hb); clear hb)
        | (go_at_call 7; (with_reducible refine (rings_calls _ (HL.out.below HB.out)).mono ?_); rintro e w9 ⟨rfl, hb⟩; have HB := Aside0.mk (below_then HB.out HB.out.size hb); clear hb))
      go_ret
      exact ⟨rfl, HB.out⟩
set_option maxHeartbeats 8000000 in
set_option maxRecDepth 100000 in
theorem bear_law (A : Option Addr) (c m : Nat) (p : Prg) (x : ByteArray) (w : World) (hm : p.length = m) (hC : Kd.C k52 w A m p) (hc : m ≤ c) (hL : LaidW w) (hf : FitsP p)
    (hg : GoodP p 200 5000) (n : Nat) (hn : 1 ≤ n) (hn28 : ¬ ((28 : Int) < n)) (hu : ∀ x ∈ p, Under ((n : Int) - 1) x) (hr1 : code_Regs.f 10000 p = some ((n : Int), 0)) (hr2 : narcissustop_regs.f 10000 p = some (n : Int)) (hx : GrowOk x 2000) :
    Calls Tryz.prog 5 #[.slice A m c, .string x] w (Yes w) := by
  have hok : OKP p := goodp_okp hg (by decide) (by decide)
  obtain ⟨hfin, hCz⟩ := fineK_small hok hg.1 hg.2.1 (w := n) (by omega)
  have hE := bearT_yes hok (w := n) (by omega) hfin 10000 (by omega) hr1
  have hEok : OKP (madeK (bearQ n p)) := hfin.2.2.1
  have hxs : x.size ≤ 2000 := by have := hx.1; omega
  have hX : (dec x.data.toList).size ≤ 2000 := by rw [dec_size hx.2]; exact hxs
  have hbr := fun k => bears_run hok hn hu hfin (dec x.data.toList) (by omega) k
  obtain ⟨N, hN⟩ : ∃ N, (madeK (bearQ n p)).length = N := ⟨_, rfl⟩
  generalize madeK (bearQ n p) = E at *
  generalize hD : dec x.data.toList = X at *
  obtain ⟨q, hq⟩ : ∃ q, runM p X 300 = q := ⟨_, rfl⟩
  have hhow := runM_how p X 300
  obtain ⟨b1, b2, b3, b4⟩ := hbr 300
  rw [hq] at hhow b1 b2 b3 b4
  obtain ⟨y, k, how⟩ := q
  dsimp only at hhow b1 b2 b3 b4
  have HM := Aside0.mk hm
  have HC := Aside0.mk hC
  have HCC := Aside0.mk hc
  have HL := Aside0.mk hL
  have HF := Aside0.mk hf.2
  have HG := Aside0.mk hg
  have HOK := Aside0.mk hok
  have HEOK := Aside0.mk hEok
  have HE := Aside0.mk hE
  have HN := Aside0.mk hN
  have HR := Aside0.mk hr2
  have HQ := Aside0.mk hq
  have HGR := Aside0.mk hx
  have HD := Aside0.mk hD
  have HCZ : Aside0 ((codeT E).size ≤ 1000000000000) := ⟨by omega⟩
  have t1 : decide ((28 : Int) < (n : Int)) = false := decide_eq_false hn28
  have HK : Aside0 ((200 : Int) = ((200 : Nat) : Int) ∧ (5000 : Int) = ((5000 : Nat) : Int) ∧ 200 ≤ 4000 ∧ 5000 ≤ 2000000 ∧ x.size ≤ 100000000 ∧ (300 : Int) = ((300 : Nat) : Int) ∧ 300 ≤ 1000000000 ∧ X.size ≤ 2000000 ∧ m ≤ 4000 ∧ (322 : Int) = ((322 : Nat) : Int) ∧ 322 ≤ 1000000000) := ⟨rfl, rfl, by decide, by decide, by omega, rfl, by decide, by omega, by have := hg.1; omega, rfl, by decide⟩
  have HB := Aside0.mk (Below.refl w.heap.size w)
  have hk3 : (k : Int) ≤ 300 := by omega
  have HKK : Aside0 (k + 22 ≤ 1000000000 ∧ (k : Int) + 22 = ((k + 22 : Nat) : Int)) := ⟨by omega, rfl⟩
  rcases hhow.2 with rfl | rfl | rfl
  case' inl =>
    have hex := runM_exact hq
    obtain ⟨s, hs⟩ : ∃ s, y.size = s := ⟨_, rfl⟩
    have HS := Aside0.mk hs
    by_cases hsm : s < 1000000
    case' pos =>
      have hb2 := (hbr k).2.1
      rw [hex] at hb2
      have hret := hb2 rfl (by show 1 + (codeT E).size + y.size ≤ 2000000; omega)
      have HRET := Aside0.mk hret
      have HYZ : Aside0 (y.size ≤ 1000000000000 ∧ (Tr.cons (codeT E) y).size ≤ 2000000) := ⟨by omega, by show 1 + (codeT E).size + y.size ≤ 2000000; omega⟩
      have t2 : decide ((s : Int) < 1000000) = true := decide_eq_true (by omega)
      clear hb2 hret
    case' neg =>
      have t2 : decide ((s : Int) < 1000000) = false := decide_eq_false (by omega)
    all_goals clear hex hs hsm
  case' inr.inl =>
    have HLS := Aside0.mk (b4 rfl)
    have HQ7 : Aside0 ((runM p X 300).2.2 = 7) := ⟨by rw [hq]⟩
  case' inr.inr =>
    have HQ3 : Aside0 ((runM p X 300).2.2 = 3) := ⟨by rw [hq]⟩
  all_goals
    clear hL hC hc hf hg hok hEok hE hN hr1 hr2 hq hx hhow b1 b2 b3 b4 hbr hfin hCz hxs hX hD hu hn hn28 hm
    go_enter Tryz.func5, Tryz.ntmps5
    go_wp2_with (first
      | (go_at_call 6; (with_reducible refine (grow_yes x 2000 _ HGR.out HK.out.2.2.2.2.1).mono ?_); rintro e w1 ⟨vx, rfl, hx, hb⟩; rw [HD.out] at hx; have HB := Aside0.mk (below_then HB.out HB.out.size hb); have HX := Aside0.mk hx; clear hb hx)
      | (go_at_call 8; (with_reducible refine (good_yes HM.out (Kd.C_below HC.out HB.out) HK.out.2.2.1 HK.out.2.2.2.1 HF.out HG.out 200 5000 HK.out.1 HK.out.2.1).mono ?_); rintro e w1 ⟨rfl, hb⟩; have HB := Aside0.mk (below_then HB.out HB.out.size hb); have HX := Aside0.mk (Nd.keep (NK.below hb) _ _ HX.out); clear hb)
      | (go_at_call 19; (with_reducible refine (tp_regs HM.out (Kd.C_below HC.out HB.out) HCC.out HR.out).mono ?_); rintro e w1 ⟨rfl, hb⟩; have HB := Aside0.mk (below_then HB.out HB.out.size hb); have HX := Aside0.mk (Nd.keep (NK.below hb) _ _ HX.out); clear hb)
      | (go_at_call 9; (with_reducible refine (tp_twin HM.out (Kd.C_below HC.out HB.out) HCC.out HK.out.2.2.2.2.2.2.2.2.1).mono ?_); rintro e w1 ⟨A1, c1, rfl, hc1, hC1, hb⟩; have HC1 := Aside0.mk hC1; have HCC1 := Aside0.mk hc1; have HB := Aside0.mk (below_then HB.out HB.out.size hb); have HX := Aside0.mk (Nd.keep (NK.below hb) _ _ HX.out); clear hb hC1 hc1)
      | (go_at_call 20; (with_reducible refine (tp_bearer HM.out HN.out HC1.out HCC1.out HE.out).mono ?_); rintro e w1 ⟨A2, c2, rfl, hC2, hb⟩; have HC2 := Aside0.mk hC2; have HB := Aside0.mk (below_then HB.out HB.out.size hb); have HX := Aside0.mk (Nd.keep (NK.below hb) _ _ HX.out); clear hb hC2)
      | (go_at_call 11; (with_reducible refine (whole_yes (A := A2) HN.out HC2.out HEOK.out).mono ?_); rintro e w1 ⟨rfl, hb⟩; have HC2 := Aside0.mk (Kd.C_below HC2.out hb); have HB := Aside0.mk (below_then HB.out HB.out.size hb); have HX := Aside0.mk (Nd.keep (NK.below hb) _ _ HX.out); clear hb)
      | (go_at_call 14; first
          | ((with_reducible refine (play_end (A := A) (t := X) 300 300 HK.out.2.2.2.2.2.1 HM.out (Kd.C_below HC.out HB.out) HOK.out HX.out HK.out.2.2.2.2.2.2.2.1 HK.out.2.2.2.2.2.2.1 HQ.out).mono ?_); rintro e w1 ⟨v, rfl, hv, hb⟩; have HV := Aside0.mk hv; have HC2 := Aside0.mk (Kd.C_below HC2.out hb); have HB := Aside0.mk (below_then HB.out HB.out.size hb); have HX := Aside0.mk (Nd.keep (NK.below hb) _ _ HX.out); clear hb hv)
          | ((with_reducible refine (play_on (A := A) (t := X) 300 300 HK.out.2.2.2.2.2.1 HM.out (Kd.C_below HC.out HB.out) HOK.out HX.out HK.out.2.2.2.2.2.2.2.1 HK.out.2.2.2.2.2.2.1 HQ7.out).mono ?_); rintro e w1 ⟨nn, rfl, hb⟩; have HC2 := Aside0.mk (Kd.C_below HC2.out hb); have HB := Aside0.mk (below_then HB.out HB.out.size hb); have HX := Aside0.mk (Nd.keep (NK.below hb) _ _ HX.out); clear hb)
          | ((with_reducible refine (play_large (A := A) (t := X) 300 300 HK.out.2.2.2.2.2.1 HM.out (Kd.C_below HC.out HB.out) HOK.out HX.out HK.out.2.2.2.2.2.2.2.1 HK.out.2.2.2.2.2.2.1 HQ3.out).mono ?_); rintro e w1 ⟨nn, rfl, hb⟩; have HC2 := Aside0.mk (Kd.C_below HC2.out hb); have HB := Aside0.mk (below_then HB.out HB.out.size hb); have HX := Aside0.mk (Nd.keep (NK.below hb) _ _ HX.out); clear hb))
      | (go_at_call 21; (with_reducible refine (Size_nat y v _ HV.out HS.out).mono ?_); rintro e w1 ⟨rfl, rfl⟩)
      | (go_at_call 13; (with_reducible refine (code_yes (A := A2) HN.out HC2.out HEOK.out).mono ?_); rintro e w1 ⟨vc, rfl, hv, hb⟩; have HVC := Aside0.mk hv; have HV := Aside0.mk (Nd.keep (NK.below hb) _ _ HV.out); have HC2 := Aside0.mk (Kd.C_below HC2.out hb); have HB := Aside0.mk (below_then HB.out HB.out.size hb); have HX := Aside0.mk (Nd.keep (NK.below hb) _ _ HX.out); clear hb hv)
      | (go_at_call 12; (with_reducible refine (Cons_calls (codeT E) y vc v _ HVC.out HV.out HCZ.out HYZ.out.1).mono ?_); rintro e w1 ⟨vp, rfl, hv, hb⟩; have HVP := Aside0.mk hv; have HC2 := Aside0.mk (Kd.C_below HC2.out hb); have HB := Aside0.mk (below_then HB.out HB.out.size hb); have HX := Aside0.mk (Nd.keep (NK.below hb) _ _ HX.out); clear hb hv)
      | (go_at_call 15; (with_reducible refine (returns_yes A2 c2 N (k + 22) E X (Tr.cons (codeT E) y) vx vp _ _ HKK.out.2 HN.out HC2.out HEOK.out HX.out HK.out.2.2.2.2.2.2.2.1 HVP.out HYZ.out.2 HKK.out.1 HRET.out).mono ?_); rintro e w1 ⟨rfl, hb⟩; have HB := Aside0.mk (below_then HB.out HB.out.size hb); clear hb)
      | (go_at_call 16; (with_reducible refine (lasts_yes A2 c2 N 322 E X vx 322 _ HK.out.2.2.2.2.2.2.2.2.2.1 HN.out HC2.out HEOK.out HX.out HK.out.2.2.2.2.2.2.2.1 HK.out.2.2.2.2.2.2.2.2.2.2 HLS.out).mono ?_); rintro e w1 ⟨rfl, hb⟩; have HB := Aside0.mk (below_then HB.out HB.out.size hb); clear hb)
      | (go_at_call 7; (with_reducible refine (rings_calls _ (HL.out.below HB.out)).mono ?_); rintro e w9 ⟨rfl, hb⟩; have HB := Aside0.mk (below_then HB.out HB.out.size hb); clear hb))
    go_ret
    exact ⟨rfl, HB.out⟩
theorem narcissustop_TopBearer.calls (A : Option Addr) (c : Nat) (p : Prg) (x : ByteArray) (w : World) (hC : Kd.C k52 w A p.length p) (hc : p.length ≤ c) (hL : LaidW w) (hf : FitsP p) :
    Calls Tryz.prog 5 #[.slice A p.length c, .string x] w (Yes w) := by
  by_cases hg : GoodP p 200 5000
  · obtain ⟨n, h1, h2, h3, h4, h5⟩ := topT_yes (goodp_okp hg (by decide) (by decide)) 10000 (by decide)
    by_cases hn : (28 : Int) < (n : Int)
    · exact bear_out A c _ p x w rfl hC hc hL hf (.inr ⟨hg, n, h5, .inl hn⟩)
    · by_cases hx : GrowOk x 2000
      · exact bear_law A c _ p x w rfl hC hc hL hf hg n h1 hn h3 h4 h5 hx
      · exact bear_out A c _ p x w rfl hC hc hL hf (.inr ⟨hg, n, h5, .inr ⟨hn, hx⟩⟩)
  · exact bear_out A c _ p x w rfl hC hc hL hf (.inl hg)
end Go.Proofs.YtpnmmpfidiegcaaGreatDoor.C
end
section
namespace Go.Proofs.YtpnmmpfidiegcaaGreatDoor.Card
open Go.ChangeShapes Go.WideShapes Go.ChangeAt Go.RowKit
open Go.Proofs.YtpnmmpfidiegcaaGreatDoor.C (LaidW pow10_named)
def L7 : List (String × DataW Unit) := [("math/bits.deBruijn32tab", Rows.laid_math_bits_deBruijn32tab), ("math/bits.deBruijn64tab", Rows.laid_math_bits_deBruijn64tab), ("internal/strconv.uint64pow10", Rows.laid_internal_strconv_uint64pow10), ("unicode/utf8.acceptRanges", Rows.laid_unicode_utf8_acceptRanges), ("strconv.ErrRange", Rows.laid_strconv_ErrRange), ("strconv.ErrSyntax", Rows.laid_strconv_ErrSyntax), ("unicode/utf8.first", Rows.laid_unicode_utf8_first)]
theorem own : ownKnob Tryz.prog.godebug = none := by kernel_rfl
theorem laidOut : laidOutB Tryz.prog = true := by kernel_rfl
theorem star : "*" ++ "errors.errorString" = "*errors.errorString" := by decide
theorem rowErr (u : TypeId) (h : Tryz.prog.typeName? 3 u = some "*errors.errorString") : u = 163 :=
  typeName_ptr_named (nm := "errors.errorString") (by rw [star]; kernel_rfl) (by kernel_rfl) (by decide) u (by rw [star]; exact h)
theorem gRange : Tryz.prog.globalNamed "strconv.ErrRange" = some 4 := by kernel_rfl
theorem gSyntax : Tryz.prog.globalNamed "strconv.ErrSyntax" = some 3 := by kernel_rfl
theorem tRange : (Tryz.prog.globals[4]?).map (·.type) = some 85 := by kernel_rfl
theorem tSyntax : (Tryz.prog.globals[3]?).map (·.type) = some 85 := by kernel_rfl
theorem tPow : (Tryz.prog.globals[5]?).map (·.type) = some 167 := by kernel_rfl
theorem cPow : Tryz.prog.cellsOf 167 = 20 := by kernel_rfl
theorem cU64 : Tryz.prog.cellsOf 132 = 1 := by kernel_rfl
theorem cErr : Tryz.prog.cellsOf 165 = 1 := by kernel_rfl
theorem cStr : Tryz.prog.cellsOf 9 = 1 := by kernel_rfl
theorem plain7 : ∀ W, laidMetH Tryz.prog L7 W = laidMet Tryz.prog L7 W := fun W => MakeChecks.laidMetH_plain _ _ _ (by kernel_rfl)
theorem laidW_of {W : World} (hsh : W.ShapedOpen Tryz.prog) (hH : laidMetH Tryz.prog L7 W) : LaidW W := by
  rw [plain7] at hH
  have h3 := laidMet.tail (laidMet.tail hH)
  have hT : Lib.TabIs Tryz.prog W "internal/strconv.uint64pow10" .u64 Lib.pow10Tab :=
    Lib.tabIs_of_head (k := .u64) (zs := Lib.pow10Tab) pow10_named tPow Tryz.underlying167 Tryz.underlying132 cU64 cPow h3
  have h5 := laidMet.tail (laidMet.tail h3)
  obtain ⟨a0, _, hv0, _⟩ := laid_sentinel h5 gRange tRange Tryz.underlying85 rowErr Tryz.underlying163 Tryz.underlying165 rfl rfl Tryz.underlying9 cErr cStr
  obtain ⟨a1, _, hv1, _⟩ := laid_sentinel (laidMet.tail h5) gSyntax tSyntax Tryz.underlying85 rowErr Tryz.underlying163 Tryz.underlying165 rfl rfl Tryz.underlying9 cErr cStr
  have hm := cell_of_shapedOpen_int (P := Tryz.prog) (g := 0) (t := 3) (k := .i64) (zero := #[.int .i64 0]) hsh (of_decide_eq_true (by kernel_rfl)) (by kernel_rfl) rfl (by kernel_rfl) (by kernel_rfl) Tryz.underlying3
  exact ⟨hm, ⟨_, _, by simpa using World.var?_cell gSyntax hv1 0⟩, ⟨_, _, by simpa using World.var?_cell gRange hv0 0⟩, hT⟩
noncomputable abbrev laidWorld (os : Os) : World := World.laidAll Tryz.prog os L7
set_option maxRecDepth 100000 in
theorem laid_met (os : Os) (args : Array Value) : laidMetH Tryz.prog L7 ((laidWorld os).forCall (fun _ _ => 0) ⟨#[], args, []⟩).memory := by
  rw [plain7]
  exact laidMet_laidAll _ (by kernel_rfl) (by kernel_rfl)
end Go.Proofs.YtpnmmpfidiegcaaGreatDoor.Card
end
section
namespace Go.Proofs.YtpnmmpfidiegcaaGreatDoor.Card
open Go.ChangeShapes Go.WideShapes Go.ChangeAt Go.RowKit Go.Deep
open Go.Proofs.YtpnmmpfidiegcaaGreatDoorW.PrintWords Go.Proofs.YtpnmmpfidiegcaaGreatDoor.C
set_option linter.unusedVariables false
theorem c5 : Tryz.prog.cellsOf 52 = 5 := by kernel_rfl
theorem b48 : Tryz.prog.bytesOf 52 = 48 := by kernel_rfl
theorem c1i : Tryz.prog.cellsOf 3 = 1 := by kernel_rfl
theorem weights_all {H : Type} {P : Program} {e : TypeId} : ∀ {l : List (DataW H)} {d : DataW H} {n : Nat}, d ∈ l → n ∈ d.weights P e → n ∈ DataW.weightsAll P e l
  | x :: l, d, n, hd, hn => by
    simp only [DataW.weightsAll, List.mem_append]
    rcases List.mem_cons.1 hd with rfl | hd
    · exact .inl hn
    · exact .inr (weights_all hd hn)
set_option maxRecDepth 100000 in
theorem open_prog {H : Type} {enc : TypeId × Value → H} {W : World} {base : Nat} {v : Value} {d : DataW H} {p : List MemPlace}
    (hok : Value.okWide Tryz.prog W .any base 29 v) (h : DataW.Trod enc Tryz.prog W 0 (fun _ => true) true 29 v d p) :
    ∃ (A : Option Addr) (c : Nat) (xs : List S52), v = .slice A xs.length c ∧ xs.length ≤ c ∧ Kd.C k52 W A xs.length xs ∧
      ∀ (ts : List TypeId) (ds : List (DataW H)) (j : Nat), (DataW.weightsEach Tryz.prog ts ds).all (· ≤ reachBytes) = true → ts[j]? = some 29 → ds[j]? = some d → xs.length * 48 ≤ 140737488351232 ∧ ∀ x ∈ xs, x.f4.size ≤ 140737488351232 := by
  obtain ⟨a0, len0, cap0, rfl⟩ := okWide_slice Tryz.underlying29 hok
  obtain ⟨fuel, hf⟩ := h
  rcases open_slice Tryz.underlying29 hf with ⟨hcs, hx⟩ | ⟨a, len, cap, m, n, D, Pl, hcs, hb, hl, hm, hmm, hx, hel⟩
  · simp [Value.cells] at hcs
    obtain ⟨rfl, rfl, rfl⟩ := hcs
    refine ⟨none, 0, [], rfl, Nat.le_refl _, ⟨rfl, Nat.zero_le _, fun h => absurd h (Nat.lt_irrefl _)⟩, fun ts ds j _ _ _ => ⟨by simp, by simp⟩⟩
  · simp [Value.cells] at hcs
    obtain ⟨rfl, rfl, rfl⟩ := hcs
    simp only [if_true] at hmm
    subst hmm
    have each : ∀ i, i < m → ∃ q : S52 × List (DataW H), (W.cell? (a.add (i * 5)) = some (.int .i64 q.1.f0) ∧ W.cell? (a.add (i * 5 + 1)) = some (.int .i64 q.1.f1) ∧ W.cell? (a.add (i * 5 + 2)) = some (.int .i64 q.1.f2) ∧ W.cell? (a.add (i * 5 + 3)) = some (.int .i64 q.1.f3) ∧ W.cell? (a.add (i * 5 + 4)) = some (.string q.1.f4)) ∧ D i = .agg q.2 ∧ q.2[4]? = some (.lit (.string q.1.f4.data.toList)) := by
      intro i hi
      obtain ⟨cs', h1, h2⟩ := hel i hi
      rw [c5] at h1
      obtain ⟨_, hlen, hcell⟩ := World.cells?_some h1
      obtain ⟨xs, k, hk, hxy, _, hxl, hfl⟩ := DataW.trod_struct Tryz.underlying52 h2
      match cs', hlen with
      | [v0, v1, v2, v3, v4], _ =>
        have e0 : DataW.trod enc Tryz.prog W 0 (fun _ => true) true k 3 ((([v0, v1, v2, v3, v4] : List Value).drop 0).take (Tryz.prog.cellsOf 3)) = xs[0]? := hfl 0 _ rfl
        rw [c1i] at e0
        have g0 : DataW.trod enc Tryz.prog W 0 (fun _ => true) true k 3 [v0] = xs[0]? := e0
        clear e0
        have e1 : DataW.trod enc Tryz.prog W 0 (fun _ => true) true k 3 ((([v0, v1, v2, v3, v4] : List Value).drop 1).take (Tryz.prog.cellsOf 3)) = xs[1]? := hfl 1 _ rfl
        rw [c1i] at e1
        have g1 : DataW.trod enc Tryz.prog W 0 (fun _ => true) true k 3 [v1] = xs[1]? := e1
        clear e1
        have e2 : DataW.trod enc Tryz.prog W 0 (fun _ => true) true k 3 ((([v0, v1, v2, v3, v4] : List Value).drop 2).take (Tryz.prog.cellsOf 3)) = xs[2]? := hfl 2 _ rfl
        rw [c1i] at e2
        have g2 : DataW.trod enc Tryz.prog W 0 (fun _ => true) true k 3 [v2] = xs[2]? := e2
        clear e2
        have e3 : DataW.trod enc Tryz.prog W 0 (fun _ => true) true k 3 ((([v0, v1, v2, v3, v4] : List Value).drop 3).take (Tryz.prog.cellsOf 3)) = xs[3]? := hfl 3 _ rfl
        rw [c1i] at e3
        have g3 : DataW.trod enc Tryz.prog W 0 (fun _ => true) true k 3 [v3] = xs[3]? := e3
        clear e3
        have e4 : DataW.trod enc Tryz.prog W 0 (fun _ => true) true k 9 ((([v0, v1, v2, v3, v4] : List Value).drop 4).take (Tryz.prog.cellsOf 9)) = xs[4]? := hfl 4 _ rfl
        rw [cStr] at e4
        have g4 : DataW.trod enc Tryz.prog W 0 (fun _ => true) true k 9 [v4] = xs[4]? := e4
        clear e4
        have hxs : xs.length = 5 := hxl
        match xs, hxs with
        | [y0, y1, y2, y3, y4], _ =>
          simp only [List.getElem?_cons_zero, List.getElem?_cons_succ] at g0 g1 g2 g3 g4
          obtain ⟨n0, e0, x0, _⟩ := DataW.trod_int Tryz.underlying3 g0
          obtain ⟨n1, e1, x1, _⟩ := DataW.trod_int Tryz.underlying3 g1
          obtain ⟨n2, e2, x2, _⟩ := DataW.trod_int Tryz.underlying3 g2
          obtain ⟨n3, e3, x3, _⟩ := DataW.trod_int Tryz.underlying3 g3
          obtain ⟨s4, e4, x4, _⟩ := DataW.trod_string Tryz.underlying9 g4
          simp only [List.cons.injEq, and_true] at e0 e1 e2 e3 e4
          subst e0 e1 e2 e3 e4
          have z0 := hcell 0 (by omega)
          have z1 := hcell 1 (by omega)
          have z2 := hcell 2 (by omega)
          have z3 := hcell 3 (by omega)
          have z4 := hcell 4 (by omega)
          rw [Deep.add_add] at z0 z1 z2 z3 z4
          simp only [List.getElem?_cons_zero, List.getElem?_cons_succ] at z0 z1 z2 z3 z4
          refine ⟨(⟨n0, n1, n2, n3, s4⟩, [y0.1, y1.1, y2.1, y3.1, y4.1]), ⟨z0, z1, z2, z3, z4⟩, (Prod.mk.inj hxy).1, ?_⟩
          show some y4.1 = _
          rw [x4]
    haveI : Inhabited (S52 × List (DataW H)) := ⟨(z52, [])⟩
    obtain ⟨q, hq⟩ := choose_lt each
    refine ⟨some a, m, (List.range len0).map fun i => (q i).1, by simp, by simpa using hl, ⟨by simp, ?_, fun hn => ⟨a, rfl, fun j x hj => ?_⟩⟩, fun ts ds j hsz ht hd => ?_⟩
    · rw [List.length_map, List.length_range]; unfold maxLen at hm; omega
    · have hjl : j < len0 := by
        have := (List.getElem?_eq_some_iff.1 hj).1
        simpa using this
      have hx' : x = (q j).1 := by
        rw [List.getElem?_map, List.getElem?_range hjl] at hj
        exact (Option.some.inj hj).symm
      subst hx'
      obtain ⟨⟨z0, z1, z2, z3, z4⟩, _⟩ := hq j (by omega)
      refine ⟨_, rfl, k52_mk W (q j).1, fun i u hi => ?_⟩
      show W.cell? (a.add (j * 5 + i)) = some u
      match i, hi with
      | 0, hi => simp only [List.getElem?_cons_zero, Option.some.injEq] at hi; subst hi; exact z0
      | 1, hi => simp only [List.getElem?_cons_zero, List.getElem?_cons_succ, Option.some.injEq] at hi; subst hi; exact z1
      | 2, hi => simp only [List.getElem?_cons_zero, List.getElem?_cons_succ, Option.some.injEq] at hi; subst hi; exact z2
      | 3, hi => simp only [List.getElem?_cons_zero, List.getElem?_cons_succ, Option.some.injEq] at hi; subst hi; exact z3
      | 4, hi => simp only [List.getElem?_cons_zero, List.getElem?_cons_succ, Option.some.injEq] at hi; subst hi; exact z4
      | i + 5, hi => simp at hi
    · have hx1 : d = .slice ((List.range len0).map D) ((List.range (m - len0)).map fun j => D (len0 + j)) := (Prod.mk.inj hx).1
      subst hx1
      refine ⟨?_, fun x hx2 => ?_⟩
      · have := sized_slice hsz ht hd Tryz.underlying29
        rw [b48, List.length_map, List.length_range] at this
        rw [List.length_map, List.length_range]
        have h2 : len0 * 48 ≤ (len0 + ((List.range (m - len0)).map fun j => D (len0 + j)).length) * 48 := Nat.mul_le_mul_right _ (Nat.le_add_right _ _)
        exact Nat.le_trans h2 this
      · obtain ⟨i, hi, rfl⟩ := List.mem_map.1 hx2
        have hil : i < len0 := by simpa using hi
        obtain ⟨_, eD, e4⟩ := hq i (by omega)
        have hmem : (q i).1.f4.data.toList.length ∈ (DataW.slice ((List.range len0).map D) ((List.range (m - len0)).map fun j => D (len0 + j))).weights Tryz.prog 29 := by
          simp only [DataW.weights, Tryz.underlying29, List.mem_cons, List.mem_append]
          refine .inr (.inl (weights_all (d := D i) (List.mem_map.2 ⟨i, hi, rfl⟩) ?_))
          rw [eD]
          simp only [DataW.weights, Tryz.underlying52]
          exact DataW.weights_mem_each (j := 4) rfl e4 _ (by simp [DataW.weights])
        have := List.all_eq_true.1 hsz _ (DataW.weights_mem_each ht hd _ hmem)
        have h2 : (q i).1.f4.data.toList.length ≤ reachBytes := of_decide_eq_true this
        rw [Array.length_toList] at h2
        exact h2
end Go.Proofs.YtpnmmpfidiegcaaGreatDoor.Card
end
