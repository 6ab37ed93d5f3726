/- Texts of this claim, together: what the functions return, and what they say in plain words. -/
import Derived.Test.YtpnmmpfidiegcaaGreatDoorUJ
import Derived.Deep.RegionLaw
section
namespace Go.Proofs.YtpnmmpfidiegcaaGreatDoor.C
open Go.RowKit Go.Proofs.YtpnmmpfidiegcaaGreatDoorW.PrintWords Go.Proofs.YtpnmmpfidiegcaaGreatDoorW.PrintLast Go.Proofs.YtpnmmpfidiegcaaGreatDoorW.PrintMore
open Go.Proofs.YtpnmmpfidiegcaaGreatDoor.Plain (Tr bs bl bl_bs numT lstT bodyT itemT codeT OKP Right Reg dec IsT ValidT codeT_cons)
set_option linter.unusedVariables false
set_option linter.unusedSimpArgs false
set_option maxHeartbeats 2000000 in
set_option maxRecDepth 100000 in
theorem equal_yes (x : Tr) (va vb : Value) (w : World) (ha : Nd w x va) (hb : Nd w x vb) (hz : x.size ≤ 100000000) :
    Calls Tryz.prog 18 #[va, vb] w fun e w' => e = .returned (.bool true) ∧ Below w.heap.size w w' := by
  have ht := fun (v : Value) (w : World) (h : Nd w x v) => text_calls x v w h hz
  generalize bs x.enc = S at ht
  have HTX := Aside0.mk ht
  have HA := Aside0.mk ha
  have HB := Aside0.mk hb
  have HBW := Aside0.mk (Below.refl w.heap.size w)
  clear ht ha hb hz
  go_enter Tryz.func18, Tryz.ntmps18
  go_wp2_with (first
    | (go_at_call 21; first | ((with_reducible refine (Size_calls x va _ HA.out).mono ?_); rintro e w1 ⟨rfl, rfl⟩) | ((with_reducible refine (Size_calls x vb _ HB.out).mono ?_); rintro e w1 ⟨rfl, rfl⟩))
    | (go_at_call 29; first | ((with_reducible refine (HTX.out va _ HA.out).mono ?_); rintro e w2 ⟨rfl, hb2⟩; have HB := Aside0.mk (Nd.keep (NK.below hb2) _ _ HB.out); have HA := Aside0.mk (Nd.keep (NK.below hb2) _ _ HA.out); have HBW := Aside0.mk (below_then HBW.out HBW.out.size hb2); clear hb2) | ((with_reducible refine (HTX.out vb _ HB.out).mono ?_); rintro e w2 ⟨rfl, hb2⟩; have HBW := Aside0.mk (below_then HBW.out HBW.out.size hb2); clear hb2)))
  go_ret
  exact ⟨rfl, HBW.out⟩
set_option maxHeartbeats 2000000 in
set_option maxRecDepth 100000 in
theorem equal_no (x y : Tr) (va vb : Value) (w : World) (ha : Nd w x va) (hb : Nd w y vb) (hne : x ≠ y) (hz : x.size ≤ 100000000) (hz2 : y.size ≤ 100000000) :
    Calls Tryz.prog 18 #[va, vb] w fun e w' => e = .returned (.bool false) ∧ Below w.heap.size w w' := by
  by_cases hs : x.size = y.size
  · have hx := fun (v : Value) (w : World) (h : Nd w x v) => text_calls x v w h hz
    have hy := fun (v : Value) (w : World) (h : Nd w y v) => text_calls y v w h hz2
    have hne2 : bs x.enc ≠ bs y.enc := fun e => hne (Tr.enc_inj (by rw [← bl_bs x.enc, e, bl_bs]))
    have t1 : ((x.size : Int) == (y.size : Int)) = true := beq_iff_eq.2 (by omega)
    generalize bs x.enc = S at hx hne2
    generalize bs y.enc = T at hy hne2
    have t2 : (S.toList == T.toList) = false := by
      refine beq_eq_false_iff_ne.2 fun e => hne2 ?_
      rw [Plain.toL, Plain.toL] at e
      rw [← Plain.bs_bl S, ← Plain.bs_bl T, e]
    have HTX := Aside0.mk hx
    have HTY := Aside0.mk hy
    have HA := Aside0.mk ha
    have HB := Aside0.mk hb
    have HBW := Aside0.mk (Below.refl w.heap.size w)
    clear hx hy ha hb hz hz2 hne hne2 hs
    go_enter Tryz.func18, Tryz.ntmps18
    go_wp2_with (first
      | (go_at_call 21; first | ((with_reducible refine (Size_calls x va _ HA.out).mono ?_); rintro e w1 ⟨rfl, rfl⟩) | ((with_reducible refine (Size_calls y vb _ HB.out).mono ?_); rintro e w1 ⟨rfl, rfl⟩))
      | (go_at_call 29; first | ((with_reducible refine (HTX.out va _ HA.out).mono ?_); rintro e w2 ⟨rfl, hb2⟩; have HB := Aside0.mk (Nd.keep (NK.below hb2) _ _ HB.out); have HA := Aside0.mk (Nd.keep (NK.below hb2) _ _ HA.out); have HBW := Aside0.mk (below_then HBW.out HBW.out.size hb2); clear hb2) | ((with_reducible refine (HTY.out vb _ HB.out).mono ?_); rintro e w2 ⟨rfl, hb2⟩; have HBW := Aside0.mk (below_then HBW.out HBW.out.size hb2); clear hb2)))
    go_ret
    exact ⟨rfl, HBW.out⟩
  · have t1 : ((x.size : Int) == (y.size : Int)) = false := beq_eq_false_iff_ne.2 (by omega)
    have HA := Aside0.mk ha
    have HB := Aside0.mk hb
    clear ha hb hz hz2 hne hs
    go_enter Tryz.func18, Tryz.ntmps18
    go_wp2_with (go_at_call 21; first | ((with_reducible refine (Size_calls x va _ HA.out).mono ?_); rintro e w1 ⟨rfl, rfl⟩) | ((with_reducible refine (Size_calls y vb _ HB.out).mono ?_); rintro e w1 ⟨rfl, rfl⟩))
    go_ret
    exact ⟨rfl, Below.refl _ _⟩
theorem numT_size' : ∀ n, (numT n).size = 2 * n + 1
  | 0 => rfl
  | n + 1 => by
    show 1 + 1 + (numT n).size = _
    rw [numT_size' n]; omega
set_option maxHeartbeats 2000000 in
set_option maxRecDepth 100000 in
theorem number_calls (n : Int) (w : World) (hn : n ≤ 1000000) :
    Calls Tryz.prog 27 #[.int .i64 n] w fun e w' => ∃ v, e = .returned v ∧ Nd w' (numT n.toNat) v ∧ Below w.heap.size w w' := by
  go_enter Tryz.func27, Tryz.ntmps27
  go_wp2
  go_loopg [3, 4] (n.toNat + 1) (fun kq v3 v4 wr => ∃ i : Nat, v4 = .int .i64 i ∧ Aside0 (i ≤ n.toNat ∧ kq = n.toNat - i + 1) ∧ Aside0 (Nd wr (numT i) v3) ∧ Aside0 (Below w.heap.size w wr))
  case atStart => exact ⟨0, rfl, ⟨Nat.zero_le _, by omega⟩, ⟨rfl⟩, ⟨Below.refl _ _⟩⟩
  case round =>
    obtain ⟨i, rfl, HI, HN, HB⟩ := hrel
    by_cases h : (i : Int) < n
    · obtain ⟨k2, rfl⟩ : ∃ k2, gk = k2 + 1 := ⟨gk - 1, by have := HI.out; omega⟩
      have HS : Aside0 ((numT i).size ≤ 1000000000000) := ⟨by rw [numT_size']; omega⟩
      go_wp2_with (go_at_call 12; refine (Cons_calls .nil (numT i) (.pointer none) u3 _ rfl HN.out (by decide) HS.out).mono ?_; rintro e w1 ⟨v, rfl, hv, hb⟩; have HV := Aside0.mk hv; have HB1 := Aside0.mk (below_then HB.out HB.out.size hb); clear hv hb)
      go_roundg k2
      case measure => omega
      case rel => exact ⟨i + 1, by go_num, ⟨by omega, by have := HI.out; omega⟩, HV, HB1⟩
    · obtain rfl : i = n.toNat := by have := HI.out; omega
      go_wp2
      go_ret
      exact ⟨_, rfl, HN.out, HB.out⟩
end Go.Proofs.YtpnmmpfidiegcaaGreatDoor.C
end
