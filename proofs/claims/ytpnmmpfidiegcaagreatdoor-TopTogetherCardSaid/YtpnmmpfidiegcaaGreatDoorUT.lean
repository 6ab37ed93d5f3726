/- Texts of this claim, together: what the functions return, and what they say in plain words. -/
import Derived.Test.YtpnmmpfidiegcaaGreatDoorUS
import Derived.Test.YtpnmmpfidiegcaaGreatDoorCards
import Derived.Test.YtpnmmpfidiegcaaGreatDoorTie
import Derived.Test.YtpnmmpfidiegcaaGreatDoorUC
import Derived.WalkKit
import Derived.ProofKit
import Derived.OpenShut
import Derived.ShutString
import Derived.ChangeOld
import Derived.Below
import Derived.SizedLaws
import Derived.Deep.DeepHandedRow
import Derived.Lib.LaidTab
import Derived.Stop.LaidErr
import Derived.Shelf.Vars
import Derived.Lay
import Derived.Deep.Slices
section
namespace Go.Proofs.YtpnmmpfidiegcaaGreatDoor.C
open Go.RowKit Go.Proofs.YtpnmmpfidiegcaaGreatDoorW.PrintWords Go.Proofs.YtpnmmpfidiegcaaGreatDoorW.PrintLast Go.Proofs.YtpnmmpfidiegcaaGreatDoorW.PrintMore
open Go.Proofs.YtpnmmpfidiegcaaGreatDoor.Plain (Tr Rg OKP after init runM codeT lstT dec okp_iff runM_exact runM_how madeL behind made_length behind_length Fine fine4 little_small knows_run later together_yes Right exec)
set_option linter.unusedVariables false
set_option linter.unusedSimpArgs false
def FitsL (l : List Prg) : Prop := ∀ p ∈ l, p.length * 48 ≤ 140737488351232 ∧ ∀ i ∈ p, i.f4.size ≤ 140737488351232
theorem after_small {p : Prg} (hp : OKP p) : ∀ (k : Nat) (a : Nat) (r : Rg), a ≤ p.length → SmallR r → SmallR (after p k (a : Int) r).2.1
  | 0, _, _, _, h => h
  | k + 1, a, r, ha, h => by
    rw [after]
    by_cases he : (a : Int) = (p.length : Int)
    · rw [if_pos he]; exact h
    · rw [if_neg he]
      have hap : a < p.length := by omega
      have hg : p.getD ((a : Int).toNat) ⟨0, 0, 0, 0, ⟨#[]⟩⟩ = p[a] := by simp [hap]
      have hR := (okp_iff.1 hp).2.2 a hap
      cases hx : exec (p.getD ((a : Int).toNat) ⟨0, 0, 0, 0, ⟨#[]⟩⟩) r with
      | none => exact h
      | some q =>
        rw [hg] at hx
        have hs := exec_small hR h hx
        have hi := exec_in hR hx hap
        obtain ⟨b, hb⟩ := Int.eq_ofNat_of_zero_le hi.1
        have := after_small hp k b q.2 (by omega) hs
        rw [← hb] at this
        exact this
theorem runM_small {p : Prg} (hp : OKP p) {t : Tr} (ht : t.size ≤ 2000000) (k : Nat) : (runM p t k).1.size ≤ 2000000 := by
  have h := after_small hp k 0 (init t) (Nat.zero_le _) (fun i => by
    unfold init
    split
    · exact ht
    · decide)
  unfold runM
  dsimp only
  split
  · split
    · exact h 0
    · show (1 : Nat) ≤ _; decide
  · show (1 : Nat) ≤ _; decide
theorem tp_tog {A : Option Addr} {c m n : Nat} {l D : List Prg} {w : World} (hm : l.length = m) (hn : D.length = n) (hC : Kd.C (Kd.slice 52 k52) w A m l) (hc : m ≤ c) (hL : LaidW w) (h : ring_Together.f 10000 l = some (D, 0)) :
    Calls Tryz.prog 10 #[.slice A m c] w fun e w' => ∃ A' c', e = .returned (.tuple #[.slice A' n c', .int .i64 0]) ∧ Kd.C (Kd.slice 52 k52) w' A' n D ∧ Below w.heap.size w w' := by
  subst hm hn
  refine (ring_Together.calls 10000 A c l D 0 w hC hc hL h).mono ?_
  rintro e w' ⟨v, rfl, hS, hb⟩
  obtain ⟨A', c', rfl, hcap, hC'⟩ := Kd.R_reads (Kd.S_R hS)
  exact ⟨A', c', rfl, hC', hb⟩
def AllGood (l : List Prg) : Prop := ∀ p ∈ l, GoodP p 60 2000
set_option maxHeartbeats 2000000 in
theorem tog_out (A : Option Addr) (c m : Nat) (l : List Prg) (x : ByteArray) (w : World) (hm : l.length = m) (hC : Kd.C (Kd.slice 52 k52) w A m l) (hc : m ≤ c) (hL : LaidW w)
    (h : m < 1 ∨ 4 < m ∨ ¬ GrowOk x 2000) : Calls Tryz.prog 3 #[.slice A m c, .string x] w (Yes w) := by
  have HL := Aside0.mk hL
  have HK : Aside0 ((GrowOk x 2000 → x.size ≤ 100000000) ∧ (2000 : Int) ≤ 100000000) := ⟨fun h => by have := h.1; omega, by decide⟩
  have HB := Aside0.mk (Below.refl w.heap.size w)
  by_cases hg : GrowOk x 2000
  case' pos => replace h : m < 1 ∨ 4 < m := by rcases h with h | h | h; exact .inl h; exact .inr h; exact absurd hg h
  case' neg => clear h; have h : m < 1 ∨ 4 < m ∨ (¬ m < 1 ∧ ¬ 4 < m) := by omega
  all_goals have HGR := Aside0.mk hg
  case' pos => rcases h with h | h
  case' neg => rcases h with h | h | ⟨h, h2⟩
  case' pos.inl => have t1 : decide ((m : Int) < 1) = true := decide_eq_true (by omega)
  case' pos.inr => have t1 : decide ((m : Int) < 1) = false := decide_eq_false (by omega); have t2 : decide (4 < (m : Int)) = true := decide_eq_true (by omega)
  case' neg.inl => have t1 : decide ((m : Int) < 1) = true := decide_eq_true (by omega)
  case' neg.inr.inl => have t1 : decide ((m : Int) < 1) = false := decide_eq_false (by omega); have t2 : decide (4 < (m : Int)) = true := decide_eq_true (by omega)
  case' neg.inr.inr => have t1 : decide ((m : Int) < 1) = false := decide_eq_false (by omega); have t2 : decide (4 < (m : Int)) = false := decide_eq_false (by omega); clear h2
  all_goals
    clear hL hC hc hg hm h
    go_enter Tryz.func3, Tryz.ntmps3
    go_wp2_with (first
      | (go_at_call 6; first
          | ((with_reducible refine (grow_no x 2000 _ HGR.out HK.out.2).mono ?_); rintro e w1 ⟨rfl, hb⟩; have HB := Aside0.mk (below_then HB.out HB.out.size hb); clear hb)
          | ((with_reducible refine (grow_yes x 2000 _ HGR.out (HK.out.1 HGR.out)).mono ?_); rintro e w1 ⟨vx, rfl, hx, hb⟩; have HB := Aside0.mk (below_then HB.out HB.out.size hb); clear hb))
      | (go_at_call 7; (with_reducible refine (rings_calls _ (HL.out.below HB.out)).mono ?_); rintro e w9 ⟨rfl, hb⟩; have HB := Aside0.mk (below_then HB.out HB.out.size hb); clear hb))
    go_ret
    exact ⟨rfl, HB.out⟩
set_option maxHeartbeats 16000000 in
set_option maxRecDepth 100000 in
theorem tog_law (A : Option Addr) (c m : Nat) (l : List Prg) (x : ByteArray) (w : World) (hm : l.length = m) (hC : Kd.C (Kd.slice 52 k52) w A m l) (hc : m ≤ c) (hL : LaidW w) (hf : FitsL l)
    (hm1 : 1 ≤ m) (hm4 : m ≤ 4) (hx : GrowOk x 2000) (L : List Prg) (X Y : Tr) (hLen : L.length = m) (hD : dec x.data.toList = X)
    (hgo : AllGood l → ring_Together.f 10000 l = some (L, 0) ∧ (∀ p ∈ L, OKP p) ∧ lstT (L.map codeT) = Y ∧ Y.size ≤ 1000000 ∧ ∀ (j : Nat) (hj : j < m) (k : Nat), runM (L[j]'(by omega)) X (24 + 11 * m + k) = later (24 + 11 * m) (runM (l[j]'(by omega)) (.cons Y X) k)) :
    Calls Tryz.prog 3 #[.slice A m c, .string x] w (Yes w) := by
  have t1 : decide ((m : Int) < 1) = false := decide_eq_false (by omega)
  have t2 : decide (4 < (m : Int)) = false := decide_eq_false (by omega)
  have hm4i : (m : Int) ≤ 4 := by omega
  have hxs : x.size ≤ 2000 := by have := hx.1; omega
  have hX : X.size ≤ 2000 := by rw [← hD, dec_size hx.2]; exact hxs
  have HXS := Aside0.mk hX
  have HX0 : Aside0 (X.size ≤ 2000000 ∧ X.size ≤ 1000000000000 ∧ x.size ≤ 100000000 ∧ (60 : Int) = ((60 : Nat) : Int) ∧ (2000 : Int) = ((2000 : Nat) : Int) ∧ 60 ≤ 4000 ∧ 2000 ≤ 2000000) := ⟨by omega, by omega, by omega, rfl, rfl, by decide, by decide⟩
  have HM := Aside0.mk hm
  have HC := Aside0.mk hC
  have HCC := Aside0.mk hc
  have HL := Aside0.mk hL
  have HF := Aside0.mk hf
  have HGR := Aside0.mk hx
  have HLEN := Aside0.mk hLen
  have HD := Aside0.mk hD
  have HGO := Aside0.mk hgo
  have HB := Aside0.mk (Below.refl w.heap.size w)
  clear hC hc hL hf hx hD hgo hxs hX
  go_enter Tryz.func3, Tryz.ntmps3
  go_wp2_with (go_at_call 6; (with_reducible refine (grow_yes x 2000 _ HGR.out HX0.out.2.2.1).mono ?_); rintro e w1 ⟨vx, rfl, hx, hb⟩; rw [HD.out] at hx; have HB := Aside0.mk (below_then HB.out HB.out.size hb); have HX := Aside0.mk hx; clear hb hx)
  go_loopg [7] (m + 1) (fun kq v7 wr => ∃ i : Nat, v7 = .int .i64 i ∧ i ≤ m ∧ Aside0 (kq = m - i + 1) ∧ Aside0 (∀ j (h : j < l.length), j < i → GoodP l[j] 60 2000) ∧ Aside0 (Below w1.heap.size w1 wr))
  case atStart => exact ⟨0, rfl, Nat.zero_le _, ⟨by omega⟩, ⟨fun j _ h => absurd h (Nat.not_lt_zero j)⟩, ⟨Below.refl _ _⟩⟩
  case round =>
    obtain ⟨i, rfl, hi, HI, HAG, HBR⟩ := hrel
    have HBT := Aside0.mk (below_then HB.out HB.out.size HBR.out)
    by_cases hlt : i < m
    · obtain ⟨ad, A2, c2, rfl, cl2, hle2, hC2⟩ := prg_at HC.out HM.out (i : Int) i rfl hlt
      have b2 : (i : Int) < (m : Int) := by omega
      have hil : i < l.length := by omega
      have HFP := Aside0.mk (HF.out (l[i]'hil) (List.getElem_mem _)).2
      have hnext : GoodP (l[i]'hil) 60 2000 → ∀ j (h : j < l.length), j < i + 1 → GoodP l[j] 60 2000 := fun hg j h hj => by
        rcases Nat.lt_or_ge j i with h2 | h2
        · exact HAG.out j h h2
        · obtain rfl : j = i := by omega
          exact hg
      have HNX := Aside0.mk hnext
      clear hnext
      generalize (l[i]'hil) = p at *
      rw [Int.toNat_natCast] at cl2
      replace cl2 := pw_cell_below HBT.out cl2
      have HC2 := Aside0.mk (Kd.C_below hC2 HBT.out)
      obtain ⟨k2, rfl⟩ : ∃ k2, gk = k2 + 1 := ⟨gk - 1, by have := HI.out; omega⟩
      clear hC2 hle2 hil
      by_cases hg : GoodP p 60 2000
      · have HG := Aside0.mk hg
        clear hg
        go_wp2_with (go_at_call 8; (with_reducible refine (good_yes rfl HC2.out HX0.out.2.2.2.2.2.1 HX0.out.2.2.2.2.2.2 HFP.out HG.out 60 2000 HX0.out.2.2.2.1 HX0.out.2.2.2.2.1).mono ?_); rintro e w2 ⟨rfl, hb⟩; have HBR := Aside0.mk (below_then HBR.out HBR.out.size hb); clear hb)
        go_roundg k2
        case measure => omega
        case rel => exact ⟨i + 1, by go_num, by omega, ⟨by have := HI.out; omega⟩, ⟨HNX.out HG.out⟩, HBR⟩
      · have HG := Aside0.mk hg
        clear hg
        go_wp2_with (first
          | (go_at_call 8; (with_reducible refine (good_no rfl HC2.out HX0.out.2.2.2.2.2.1 HX0.out.2.2.2.2.2.2 HFP.out HG.out 60 2000 HX0.out.2.2.2.1 HX0.out.2.2.2.2.1).mono ?_); rintro e w2 ⟨rfl, hb⟩; have HBT := Aside0.mk (below_then HBT.out HBT.out.size hb); clear hb)
          | (go_at_call 7; (with_reducible refine (rings_calls _ (HL.out.below HBT.out)).mono ?_); rintro e w9 ⟨rfl, hb⟩; have HBT := Aside0.mk (below_then HBT.out HBT.out.size hb); clear hb))
        go_ret
        exact ⟨rfl, HBT.out⟩
    · obtain rfl : m = i := by omega
      obtain ⟨h1, h2, h3, h4, h5⟩ := HGO.out (fun p hp => by obtain ⟨j, hj, rfl⟩ := List.mem_iff_getElem.1 hp; exact HAG.out j hj (by have := HM.out; omega))
      have hgood : ∀ p ∈ l, GoodP p 60 2000 := fun p hp => by obtain ⟨j, hj, rfl⟩ := List.mem_iff_getElem.1 hp; exact HAG.out j hj (by have := HM.out; omega)
      have HGD := Aside0.mk hgood
      have HTG := Aside0.mk h1
      have HOK := Aside0.mk h2
      have HY := Aside0.mk h3
      have HYZ := Aside0.mk h4
      have HRUN := Aside0.mk h5
      have HB := HBT
      have HX := Aside0.mk (Nd.keep (NK.below HBR.out) _ _ HX.out)
      clear h1 h2 h3 h4 h5 hgood HAG HBR HBT HGO HI hlt hi
      go_wp2
      go_loopg [8, 9] (m + 1) (fun kq v8 v9 wq => ∃ i : Nat, v9 = .int .i64 i ∧ i ≤ m ∧ Aside0 (kq = m - i + 1) ∧ Aside0 (Kd.S (Kd.slice 52 k52) 29 wq w.heap.size (fun _ => True) v8 (l.take i)) ∧ Aside0 (Below w.heap.size w wq) ∧ Aside0 (Nd wq X vx))
      case atStart => exact ⟨0, rfl, Nat.zero_le _, ⟨by omega⟩, ⟨Kd.S_nil _ _ _ _ _⟩, HB, HX⟩
      case round =>
        clear HX HB
        obtain ⟨i, rfl, hi, HI, HO, HB, HX⟩ := hrel
        by_cases hlt : i < m
        · obtain ⟨ad, A2, c2, rfl, cl2, hle2, hC2⟩ := prg_at HC.out HM.out (i : Int) i rfl hlt
          have b2 : (i : Int) < (m : Int) := by omega
          have hil : i < l.length := by omega
          have htk : l.take (i + 1) = l.take i ++ [l[i]'hil] := List.take_succ_eq_append_getElem hil
          have htl : (l.take i).length ≤ 4 := by rw [List.length_take]; omega
          have HGP := Aside0.mk (HGD.out (l[i]'hil) (List.getElem_mem _))
          have HTK := Aside0.mk htk
          have HTL := Aside0.mk htl
          clear htk htl
          generalize (l[i]'hil) = p at *
          rw [Int.toNat_natCast] at cl2
          replace cl2 := pw_cell_below HB.out cl2
          have HC2 := Aside0.mk (Kd.C_below hC2 HB.out)
          have HLE := Aside0.mk hle2
          have HTF : Aside0 (narcissustop_twin.f p = some p) := ⟨by unfold narcissustop_twin.f; rw [Option.bind_some, if_pos (by have := HGP.out.1; simp; omega)]; rfl⟩
          obtain ⟨k2, rfl⟩ : ∃ k2, gk = k2 + 1 := ⟨gk - 1, by have := HI.out; omega⟩
          clear hC2 hle2 hil
          go_wp2_with (first
            | (go_at_call 9; (with_reducible refine (narcissustop_twin.calls A2 c2 p p _ HC2.out HLE.out HTF.out).mono ?_); rintro e w7 ⟨vt, rfl, hR, hb⟩; obtain ⟨At, ct, rfl⟩ := Kd.R_slice hR; have HRT := Aside0.mk (Kd.R_lower (Kd.R_new' hR (Kd.S_lt HO.out)) (below_size HB.out)); have HO := Aside0.mk (Kd.S_elder' HO.out (Kd.R_base hR) hb); have HB := Aside0.mk (below_then HB.out HB.out.size hb); have HX := Aside0.mk (Nd.keep (NK.below hb) _ _ HX.out); clear hb hR)
            | ((with_reducible refine gate_builtin (b := .append) (xs := #[.tmp 56, .tmp 62]) rfl ?_); at_builtin; refine Kd.S_append (Kd.slice 52 k52) (w0 := w) w.heap.size rfl (.tmp 56) (.tmp 62) 22 29 (.slice none 0 0) 24 rfl Tryz.underlying22 info29 rfl (by decide) (by omega) _ (l.take i) p [.slice At p.length ct] (fun _ => True) (fun k_ => some k_ = (.slice At p.length ct : Value).ownBlock) rfl rfl ?aP (fun k_ hk_ => HRT.out.1 k_ hk_.symm) ?aF ?aO ?aB ?aS ?aL ?_; (case aP => exact Kd.M_row (Kd.R_mono (Kd.R_tight rfl HRT.out) (fun _ h_ => h_))); (case aF => exact fun _ _ => trivial); (case aO => exact Kd.S_mono HO.out (fun k_ hk => ⟨trivial, fun e_ => hk.2 e_⟩)); (case aB => exact HB.out); (case aS => exact below_size HB.out); (case aL => have := HTL.out; omega); intro v15 w15 ho hb hg hat; obtain ⟨inn, hown⟩ := Kd.R_own (Kd.S_R HO.out); have HX := Aside0.mk (Nd.keep (NK.grown hg hown (by decide)) _ _ HX.out); have HO := Aside0.mk ho; have HB := Aside0.mk hb; rw [← HTK.out] at HO; clear ho hb hg hat hown))
          go_roundg k2
          case measure => omega
          case rel => exact ⟨i + 1, by go_num, by omega, ⟨by have := HI.out; omega⟩, HO, HB, HX⟩
        · obtain rfl : m = i := by omega
          have hO := HO.out
          rw [List.take_of_length_le (by have := HM.out; omega)] at hO
          obtain ⟨Ao, co, eo⟩ := Kd.S_slice hO
          subst eo
          obtain ⟨_, hco, hCo⟩ := Kd.S_reads' hO
          rw [HM.out] at hco hCo
          have HCo := Aside0.mk hCo
          have HCOc := Aside0.mk hco
          clear hO hco hCo HO HI hlt hi
          go_wp2_with (go_at_call 10; (with_reducible refine (tp_tog HM.out HLEN.out HCo.out HCOc.out (HL.out.below HB.out) HTG.out).mono ?_); rintro e w2 ⟨AL, cL, rfl, hCL, hb⟩; have HCL := Aside0.mk hCL; have HX := Aside0.mk (Nd.keep (NK.below hb) _ _ HX.out); have HB := Aside0.mk (below_then HB.out HB.out.size hb); clear hb hCL)
          go_loopg [12, 13] (m + 1) (fun kq v12 v13 wq => ∃ i : Int, v13 = .int .i64 i ∧ Aside0 (-1 ≤ i ∧ i + 1 ≤ m ∧ kq = (i + 1).toNat + 1) ∧ Aside0 (Nd wq (lstT ((L.drop (i + 1).toNat).map codeT)) v12) ∧ Aside0 (Below w2.heap.size w2 wq))
          case atStart => exact ⟨_, rfl, ⟨by omega, by omega, by omega⟩, ⟨by rw [show ((m : Int) - 1 + 1).toNat = m from by omega, List.drop_of_length_le (by have := HLEN.out; omega)]; rfl⟩, ⟨Below.refl _ _⟩⟩
          case round =>
            obtain ⟨i, rfl, HI, HN, HBR⟩ := hrel
            by_cases h0 : 0 ≤ i
            · obtain ⟨j, rfl⟩ := Int.eq_ofNat_of_zero_le h0
              have hj : j < m := by have := HI.out; omega
              have hj1 : (j : Int) < (m : Int) := by omega
              obtain ⟨ad1, A3, c3, rfl, cl3, hle3, hC3⟩ := prg_at HCL.out HLEN.out (j : Int) j rfl hj
              have hil : j < L.length := by have := HLEN.out; omega
              rw [show ((j : Int) + 1).toNat = j + 1 from by omega] at HN
              have hd : (L.drop j).map codeT = codeT (L[j]'hil) :: (L.drop (j + 1)).map codeT := by rw [List.drop_eq_getElem_cons hil, List.map_cons]
              have hsz : (lstT ((L.drop (j + 1)).map codeT)).size ≤ 1000000000000 := by
                have h1 := lstT_drop (L.map codeT) (j + 1)
                rw [← List.map_drop, HY.out] at h1
                have := HYZ.out
                omega
              have HDD := Aside0.mk hd
              have HSZ := Aside0.mk hsz
              have HPK := Aside0.mk (HOK.out (L[j]'hil) (List.getElem_mem _))
              clear hd hsz
              generalize (L[j]'hil) = p at *
              generalize (L.drop (j + 1)).map codeT = R at *
              rw [Int.toNat_natCast] at cl3
              replace cl3 := pw_cell_below HBR.out cl3
              have HC3 := Aside0.mk (Kd.C_below hC3 HBR.out)
              have HCS : Aside0 ((codeT p).size ≤ 1000000000000) := ⟨by have := code_small HPK.out; omega⟩
              obtain ⟨k2, rfl⟩ : ∃ k2, gk = k2 + 1 := ⟨gk - 1, by have := HI.out; omega⟩
              clear hC3 hle3 hil
              go_wp2_with (first
                | (go_at_call 11; (with_reducible refine (whole_yes (A := A3) rfl HC3.out HPK.out).mono ?_); rintro e w7 ⟨rfl, hb⟩; have HBR := Aside0.mk (below_then HBR.out HBR.out.size hb); have HC3 := Aside0.mk (Kd.C_below HC3.out hb); have HN := Aside0.mk (Nd.keep (NK.below hb) _ _ HN.out); replace cl3 := pw_cell_below hb cl3; clear hb)
                | (go_at_call 13; (with_reducible refine (code_yes (A := A3) rfl HC3.out HPK.out).mono ?_); rintro e w7 ⟨vc, rfl, hv, hb⟩; have HBR := Aside0.mk (below_then HBR.out HBR.out.size hb); have HN := Aside0.mk (Nd.keep (NK.below hb) _ _ HN.out); have HVC := Aside0.mk hv; clear hb hv)
                | (go_at_call 12; (with_reducible refine (Cons_calls (codeT p) (lstT R) vc _ _ HVC.out HN.out HCS.out HSZ.out).mono ?_); rintro e w7 ⟨vp, rfl, hv, hb⟩; have HBR := Aside0.mk (below_then HBR.out HBR.out.size hb); have HVP := Aside0.mk hv; clear hb hv))
              go_roundg k2
              case measure => omega
              case rel => exact ⟨(j : Int) - 1, by go_num, ⟨by omega, by omega, by have := HI.out; omega⟩, ⟨by rw [show ((j : Int) - 1 + 1).toNat = j from by omega, HDD.out]; exact HVP.out⟩, HBR⟩
            · obtain rfl : i = -1 := by have := HI.out; omega
              have hN := HN.out
              rw [show ((-1 : Int) + 1).toNat = 0 from rfl, List.drop_zero, HY.out] at hN
              have HNY := Aside0.mk hN
              have HX := Aside0.mk (Nd.keep (NK.below HBR.out) _ _ HX.out)
              have HB2 := HB
              have HB3 := HBR
              clear hN HN HI HBR h0
              have HTZ : Aside0 ((Tr.cons Y X).size ≤ 2000000 ∧ Y.size ≤ 1000000000000 ∧ (300 : Int) = ((300 : Nat) : Int) ∧ 300 ≤ 1000000000) := ⟨by have := HYZ.out; have := HXS.out; show 1 + Y.size + X.size ≤ _; omega, by have := HYZ.out; omega, rfl, by decide⟩
              go_wp2
              go_loopg [15] (m + 1) (fun kq v15 wq => ∃ i : Nat, v15 = .int .i64 i ∧ i ≤ m ∧ Aside0 (kq = m - i + 1) ∧ Aside0 (Below wr.heap.size wr wq))
              case atStart => exact ⟨0, rfl, Nat.zero_le _, ⟨by omega⟩, ⟨Below.refl _ _⟩⟩
              case round =>
                obtain ⟨i, rfl, hi, HI, HBR⟩ := hrel
                have HB4 := Aside0.mk (below_then HB3.out HB3.out.size HBR.out)
                have HB5 := Aside0.mk (below_then HB2.out HB2.out.size HB4.out)
                by_cases hlt : i < m
                · obtain ⟨ad2, A2, c2, e2, cl2, hle2, hC2⟩ := prg_at HC.out HM.out (i : Int) i rfl hlt
                  subst e2
                  obtain ⟨ad3, A3, c3, e3, cl3, hle3, hC3⟩ := prg_at HCL.out HLEN.out (i : Int) i rfl hlt
                  subst e3
                  have b2 : (i : Int) < (m : Int) := by omega
                  have hil : i < l.length := by have := HM.out; omega
                  have hiL : i < L.length := by have := HLEN.out; omega
                  have hrn := HRUN.out i hlt
                  have HPK := Aside0.mk (goodp_okp (HGD.out (l[i]'hil) (List.getElem_mem _)) (by decide) (by decide))
                  have HEK := Aside0.mk (HOK.out (L[i]'hiL) (List.getElem_mem _))
                  generalize (l[i]'hil) = p at *
                  generalize (L[i]'hiL) = E at *
                  rw [Int.toNat_natCast] at cl2 cl3
                  replace cl2 := pw_cell_below HB5.out cl2
                  replace cl3 := pw_cell_below HB4.out cl3
                  have HC2 := Aside0.mk (Kd.C_below hC2 HB5.out)
                  have HC3 := Aside0.mk (Kd.C_below hC3 HB4.out)
                  have HNYR := Aside0.mk (Nd.keep (NK.below HBR.out) _ _ HNY.out)
                  have HXR := Aside0.mk (Nd.keep (NK.below HBR.out) _ _ HX.out)
                  obtain ⟨q, hq⟩ : ∃ q, runM p (.cons Y X) 300 = q := ⟨_, rfl⟩
                  have hhow := runM_how p (.cons Y X) 300
                  have hys := runM_small HPK.out HTZ.out.1 300
                  rw [hq] at hhow hys
                  obtain ⟨y, k, how⟩ := q
                  dsimp only at hhow hys
                  have hk3 : (k : Int) ≤ 300 := by omega
                  have HQ := Aside0.mk hq
                  have HYS := Aside0.mk hys
                  obtain ⟨k2, rfl⟩ : ∃ k2, gk = k2 + 1 := ⟨gk - 1, by have := HI.out; omega⟩
                  rcases hhow.2 with rfl | rfl | rfl
                  case' inl =>
                    have hr := hrn k
                    rw [runM_exact hq] at hr
                    have hr2 : runM E X (k + (24 + 11 * m)) = (y, k + (24 + 11 * m), 0) := by rw [Nat.add_comm k]; rw [hr]; unfold later; dsimp only; rw [if_pos rfl, Nat.add_comm k]
                    have HRT := Aside0.mk hr2
                    have HKK : Aside0 (k + (24 + 11 * m) ≤ 1000000000) := ⟨by omega⟩
                    clear hr hr2
                  case' inr.inl =>
                    have hr := hrn 300
                    rw [hq] at hr
                    have HLS : Aside0 ((runM E X (24 + 11 * m + 300)).2.2 ≠ 0) := ⟨by rw [hr]; exact (show ¬ ((7 : Int) = 0) by decide)⟩
                    have HQ7 : Aside0 ((runM p (.cons Y X) 300).2.2 = 7) := ⟨by rw [hq]⟩
                    have HKK : Aside0 (24 + 11 * m + 300 ≤ 1000000000) := ⟨by omega⟩
                    clear hr
                  case' inr.inr =>
                    have HQ3 : Aside0 ((runM p (.cons Y X) 300).2.2 = 3) := ⟨by rw [hq]⟩
                  all_goals
                    clear hC2 hC3 hle2 hle3 hil hiL hrn hq hhow hys
                    go_wp2
                    have HBD := Aside0.mk (below_drew (Below.refl wr.heap.size wr))
                    have y2 := pw_cell_below HBD.out cl2
                    have HC2 := Aside0.mk (Kd.C_below HC2.out HBD.out)
                    have HC3 := Aside0.mk (Kd.C_below HC3.out HBD.out)
                    have HNYR := Aside0.mk (Nd.keep (NK.below HBD.out) _ _ HNYR.out)
                    have HXR := Aside0.mk (Nd.keep (NK.below HBD.out) _ _ HXR.out)
                    have HBR := Aside0.mk (below_then HBR.out HBR.out.size HBD.out)
                    replace cl3 := pw_cell_below HBD.out cl3
                    go_region_law (first
                      | (go_simp; go_at_call 12; (with_reducible refine (Cons_calls Y X _ vx _ HNYR.out HXR.out HTZ.out.2.1 HX0.out.2.1).mono ?_); rintro e w7 ⟨vp, rfl, hv, hb⟩; have HBR := Aside0.mk (below_then HBR.out HBR.out.size hb); have HVP := Aside0.mk hv; have HC2 := Aside0.mk (Kd.C_below HC2.out hb); have HC3 := Aside0.mk (Kd.C_below HC3.out hb); have HXR := Aside0.mk (Nd.keep (NK.below hb) _ _ HXR.out); replace y2 := pw_cell_below hb y2; replace cl3 := pw_cell_below hb cl3; clear hb hv)
                      | (go_simp; go_at_call 14; first
                          | ((with_reducible refine (play_end (A := A2) (t := .cons Y X) 300 300 HTZ.out.2.2.1 rfl HC2.out HPK.out HVP.out HTZ.out.1 HTZ.out.2.2.2 HQ.out).mono ?_); rintro e w8 ⟨v, rfl, hv, hb⟩; have HBR := Aside0.mk (below_then HBR.out HBR.out.size hb); have HV := Aside0.mk hv; have HC3 := Aside0.mk (Kd.C_below HC3.out hb); have HXR := Aside0.mk (Nd.keep (NK.below hb) _ _ HXR.out); replace cl3 := pw_cell_below hb cl3; clear hb hv)
                          | ((with_reducible refine (play_on (A := A2) (t := .cons Y X) 300 300 HTZ.out.2.2.1 rfl HC2.out HPK.out HVP.out HTZ.out.1 HTZ.out.2.2.2 HQ7.out).mono ?_); rintro e w8 ⟨nn, rfl, hb⟩; have HBR := Aside0.mk (below_then HBR.out HBR.out.size hb); have HC3 := Aside0.mk (Kd.C_below HC3.out hb); have HXR := Aside0.mk (Nd.keep (NK.below hb) _ _ HXR.out); replace cl3 := pw_cell_below hb cl3; clear hb)
                          | ((with_reducible refine (play_large (A := A2) (t := .cons Y X) 300 300 HTZ.out.2.2.1 rfl HC2.out HPK.out HVP.out HTZ.out.1 HTZ.out.2.2.2 HQ3.out).mono ?_); rintro e w8 ⟨nn, rfl, hb⟩; have HBR := Aside0.mk (below_then HBR.out HBR.out.size hb); have HC3 := Aside0.mk (Kd.C_below HC3.out hb); have HXR := Aside0.mk (Nd.keep (NK.below hb) _ _ HXR.out); replace cl3 := pw_cell_below hb cl3; clear hb)))
                  all_goals
                    clear y2 cl2
                    go_wp2_with (first
                      | (go_at_call 15; (with_reducible refine (returns_yes A3 c3 _ (k + (24 + 11 * m)) E X y vx v _ _ (by omega) rfl HC3.out HEK.out HXR.out HX0.out.1 HV.out HYS.out HKK.out HRT.out).mono ?_); rintro e w9 ⟨rfl, hb⟩; have HBR := Aside0.mk (below_then HBR.out HBR.out.size hb); clear hb)
                      | (go_at_call 16; (with_reducible refine (lasts_yes A3 c3 _ (24 + 11 * m + 300) E X vx _ _ (by omega) rfl HC3.out HEK.out HXR.out HX0.out.1 HKK.out HLS.out).mono ?_); rintro e w9 ⟨rfl, hb⟩; have HBR := Aside0.mk (below_then HBR.out HBR.out.size hb); clear hb))
                    go_roundg k2
                    case measure => omega
                    case rel => exact ⟨i + 1, by go_num, by omega, ⟨by have := HI.out; omega⟩, HBR⟩
                · obtain rfl : m = i := by omega
                  go_wp2_with (go_at_call 7; (with_reducible refine (rings_calls _ (HL.out.below HB5.out)).mono ?_); rintro e w9 ⟨rfl, hb⟩; have HB5 := Aside0.mk (below_then HB5.out HB5.out.size hb); clear hb)
                  go_ret
                  exact ⟨rfl, HB5.out⟩
theorem narcissustop_TopTogether.calls (A : Option Addr) (c : Nat) (l : List Prg) (x : ByteArray) (w : World) (hC : Kd.C (Kd.slice 52 k52) w A l.length l) (hc : l.length ≤ c) (hL : LaidW w) (hf : FitsL l) :
    Calls Tryz.prog 3 #[.slice A l.length c, .string x] w (Yes w) := by
  by_cases h1 : l.length < 1
  · exact tog_out A c _ l x w rfl hC hc hL (.inl h1)
  by_cases h4 : 4 < l.length
  · exact tog_out A c _ l x w rfl hC hc hL (.inr (.inl h4))
  by_cases hx : GrowOk x 2000
  · have hX : (dec x.data.toList).size ≤ 2000 := by rw [dec_size hx.2]; have h2 := hx.1; have h3 : x.data.toList.length = x.size := Array.length_toList; omega
    refine tog_law A c _ l x w rfl hC hc hL hf (by omega) (by omega) hx (madeL (behind l)) _ (lstT ((madeL (behind l)).map codeT)) (by rw [made_length, behind_length]) rfl fun hg => ?_
    have hok : ∀ p ∈ l, OKP p := fun p hp => goodp_okp (hg p hp) (by decide) (by decide)
    obtain ⟨hfin, hz⟩ := fine4 (Nat.le_refl 46400) (l := l) (by omega) (fun p hp => little_small (hok p hp) (hg p hp).1 (hg p hp).2.1)
    refine ⟨together_yes hok (by omega) (by omega) hfin 10000 (by decide), fun p hp => hfin.2.1 p hp, rfl, hz, fun j hj k => ?_⟩
    exact knows_run l rfl hok hfin j hj _ (by omega) k
  · exact tog_out A c _ l x w rfl hC hc hL (.inr (.inr hx))
end Go.Proofs.YtpnmmpfidiegcaaGreatDoor.C
end
section
namespace Go.Proofs.YtpnmmpfidiegcaaGreatDoor.Card
open Go.ChangeShapes Go.WideShapes Go.ChangeAt Go.RowKit
open Go.Proofs.YtpnmmpfidiegcaaGreatDoor.C (LaidW pow10_named)
def L7 : List (String × DataW Unit) := [("math/bits.deBruijn32tab", Rows.laid_math_bits_deBruijn32tab), ("math/bits.deBruijn64tab", Rows.laid_math_bits_deBruijn64tab), ("internal/strconv.uint64pow10", Rows.laid_internal_strconv_uint64pow10), ("unicode/utf8.acceptRanges", Rows.laid_unicode_utf8_acceptRanges), ("strconv.ErrRange", Rows.laid_strconv_ErrRange), ("strconv.ErrSyntax", Rows.laid_strconv_ErrSyntax), ("unicode/utf8.first", Rows.laid_unicode_utf8_first)]
theorem own : ownKnob Tryz.prog.godebug = none := by kernel_rfl
theorem laidOut : laidOutB Tryz.prog = true := by kernel_rfl
theorem star : "*" ++ "errors.errorString" = "*errors.errorString" := by decide
theorem rowErr (u : TypeId) (h : Tryz.prog.typeName? 3 u = some "*errors.errorString") : u = 163 :=
  typeName_ptr_named (nm := "errors.errorString") (by rw [star]; kernel_rfl) (by kernel_rfl) (by decide) u (by rw [star]; exact h)
theorem gRange : Tryz.prog.globalNamed "strconv.ErrRange" = some 4 := by kernel_rfl
theorem gSyntax : Tryz.prog.globalNamed "strconv.ErrSyntax" = some 3 := by kernel_rfl
theorem tRange : (Tryz.prog.globals[4]?).map (·.type) = some 85 := by kernel_rfl
theorem tSyntax : (Tryz.prog.globals[3]?).map (·.type) = some 85 := by kernel_rfl
theorem tPow : (Tryz.prog.globals[5]?).map (·.type) = some 167 := by kernel_rfl
theorem cPow : Tryz.prog.cellsOf 167 = 20 := by kernel_rfl
theorem cU64 : Tryz.prog.cellsOf 132 = 1 := by kernel_rfl
theorem cErr : Tryz.prog.cellsOf 165 = 1 := by kernel_rfl
theorem cStr : Tryz.prog.cellsOf 9 = 1 := by kernel_rfl
theorem plain7 : ∀ W, laidMetH Tryz.prog L7 W = laidMet Tryz.prog L7 W := fun W => MakeChecks.laidMetH_plain _ _ _ (by kernel_rfl)
theorem laidW_of {W : World} (hsh : W.ShapedOpen Tryz.prog) (hH : laidMetH Tryz.prog L7 W) : LaidW W := by
  rw [plain7] at hH
  have h3 := laidMet.tail (laidMet.tail hH)
  have hT : Lib.TabIs Tryz.prog W "internal/strconv.uint64pow10" .u64 Lib.pow10Tab :=
    Lib.tabIs_of_head (k := .u64) (zs := Lib.pow10Tab) pow10_named tPow Tryz.underlying167 Tryz.underlying132 cU64 cPow h3
  have h5 := laidMet.tail (laidMet.tail h3)
  obtain ⟨a0, _, hv0, _⟩ := laid_sentinel h5 gRange tRange Tryz.underlying85 rowErr Tryz.underlying163 Tryz.underlying165 rfl rfl Tryz.underlying9 cErr cStr
  obtain ⟨a1, _, hv1, _⟩ := laid_sentinel (laidMet.tail h5) gSyntax tSyntax Tryz.underlying85 rowErr Tryz.underlying163 Tryz.underlying165 rfl rfl Tryz.underlying9 cErr cStr
  have hm := cell_of_shapedOpen_int (P := Tryz.prog) (g := 0) (t := 3) (k := .i64) (zero := #[.int .i64 0]) hsh (of_decide_eq_true (by kernel_rfl)) (by kernel_rfl) rfl (by kernel_rfl) (by kernel_rfl) Tryz.underlying3
  exact ⟨hm, ⟨_, _, by simpa using World.var?_cell gSyntax hv1 0⟩, ⟨_, _, by simpa using World.var?_cell gRange hv0 0⟩, hT⟩
noncomputable abbrev laidWorld (os : Os) : World := World.laidAll Tryz.prog os L7
set_option maxRecDepth 100000 in
theorem laid_met (os : Os) (args : Array Value) : laidMetH Tryz.prog L7 ((laidWorld os).forCall (fun _ _ => 0) ⟨#[], args, []⟩).memory := by
  rw [plain7]
  exact laidMet_laidAll _ (by kernel_rfl) (by kernel_rfl)
end Go.Proofs.YtpnmmpfidiegcaaGreatDoor.Card
end
section
namespace Go.Proofs.YtpnmmpfidiegcaaGreatDoor.Card
open Go.ChangeShapes Go.WideShapes Go.ChangeAt Go.RowKit Go.Deep
open Go.Proofs.YtpnmmpfidiegcaaGreatDoorW.PrintWords Go.Proofs.YtpnmmpfidiegcaaGreatDoor.C
set_option linter.unusedVariables false
theorem c5 : Tryz.prog.cellsOf 52 = 5 := by kernel_rfl
theorem b48 : Tryz.prog.bytesOf 52 = 48 := by kernel_rfl
theorem c1i : Tryz.prog.cellsOf 3 = 1 := by kernel_rfl
theorem weights_all {H : Type} {P : Program} {e : TypeId} : ∀ {l : List (DataW H)} {d : DataW H} {n : Nat}, d ∈ l → n ∈ d.weights P e → n ∈ DataW.weightsAll P e l
  | x :: l, d, n, hd, hn => by
    simp only [DataW.weightsAll, List.mem_append]
    rcases List.mem_cons.1 hd with rfl | hd
    · exact .inl hn
    · exact .inr (weights_all hd hn)
end Go.Proofs.YtpnmmpfidiegcaaGreatDoor.Card
end
section
namespace Go.Proofs.YtpnmmpfidiegcaaGreatDoor.Card
open Go.ChangeShapes Go.WideShapes Go.ChangeAt Go.RowKit Go.Deep
open Go.Proofs.YtpnmmpfidiegcaaGreatDoorW.PrintWords Go.Proofs.YtpnmmpfidiegcaaGreatDoor.C
set_option linter.unusedVariables false
theorem c1p : Tryz.prog.cellsOf 29 = 1 := by kernel_rfl
set_option maxRecDepth 100000 in
theorem open_prog0 {H : Type} {enc : TypeId × Value → H} {W : World} {v : Value} {d : DataW H} {p : List MemPlace} {fuel : Nat}
    (hf : DataW.trod enc Tryz.prog W 0 (fun _ => true) true fuel 29 [v] = some (d, p)) :
    ∃ (A : Option Addr) (c : Nat) (xs : List S52), v = .slice A xs.length c ∧ xs.length ≤ c ∧ Kd.C k52 W A xs.length xs ∧
      ((∀ n ∈ d.weights Tryz.prog 29, n ≤ reachBytes) → xs.length * 48 ≤ 140737488351232 ∧ ∀ x ∈ xs, x.f4.size ≤ 140737488351232) := by
  rcases open_slice Tryz.underlying29 hf with ⟨hcs, hx⟩ | ⟨a, len, cap, m, n, D, Pl, hcs, hb, hl, hm, hmm, hx, hel⟩
  · obtain rfl : v = .slice none 0 0 := by simpa using hcs
    refine ⟨none, 0, [], rfl, Nat.le_refl _, ⟨rfl, Nat.zero_le _, fun h => absurd h (Nat.lt_irrefl _)⟩, fun _ => ⟨by simp, by simp⟩⟩
  · obtain rfl : v = .slice (some a) len cap := by simpa using hcs
    simp only [if_true] at hmm
    subst hmm
    have each : ∀ i, i < m → ∃ q : S52 × List (DataW H), (W.cell? (a.add (i * 5)) = some (.int .i64 q.1.f0) ∧ W.cell? (a.add (i * 5 + 1)) = some (.int .i64 q.1.f1) ∧ W.cell? (a.add (i * 5 + 2)) = some (.int .i64 q.1.f2) ∧ W.cell? (a.add (i * 5 + 3)) = some (.int .i64 q.1.f3) ∧ W.cell? (a.add (i * 5 + 4)) = some (.string q.1.f4)) ∧ D i = .agg q.2 ∧ q.2[4]? = some (.lit (.string q.1.f4.data.toList)) := by
      intro i hi
      obtain ⟨cs', h1, h2⟩ := hel i hi
      rw [c5] at h1
      obtain ⟨_, hlen, hcell⟩ := World.cells?_some h1
      obtain ⟨xs, k, hk, hxy, _, hxl, hfl⟩ := DataW.trod_struct Tryz.underlying52 h2
      match cs', hlen with
      | [v0, v1, v2, v3, v4], _ =>
        have e0 : DataW.trod enc Tryz.prog W 0 (fun _ => true) true k 3 ((([v0, v1, v2, v3, v4] : List Value).drop 0).take (Tryz.prog.cellsOf 3)) = xs[0]? := hfl 0 _ rfl
        rw [c1i] at e0
        have g0 : DataW.trod enc Tryz.prog W 0 (fun _ => true) true k 3 [v0] = xs[0]? := e0
        clear e0
        have e1 : DataW.trod enc Tryz.prog W 0 (fun _ => true) true k 3 ((([v0, v1, v2, v3, v4] : List Value).drop 1).take (Tryz.prog.cellsOf 3)) = xs[1]? := hfl 1 _ rfl
        rw [c1i] at e1
        have g1 : DataW.trod enc Tryz.prog W 0 (fun _ => true) true k 3 [v1] = xs[1]? := e1
        clear e1
        have e2 : DataW.trod enc Tryz.prog W 0 (fun _ => true) true k 3 ((([v0, v1, v2, v3, v4] : List Value).drop 2).take (Tryz.prog.cellsOf 3)) = xs[2]? := hfl 2 _ rfl
        rw [c1i] at e2
        have g2 : DataW.trod enc Tryz.prog W 0 (fun _ => true) true k 3 [v2] = xs[2]? := e2
        clear e2
        have e3 : DataW.trod enc Tryz.prog W 0 (fun _ => true) true k 3 ((([v0, v1, v2, v3, v4] : List Value).drop 3).take (Tryz.prog.cellsOf 3)) = xs[3]? := hfl 3 _ rfl
        rw [c1i] at e3
        have g3 : DataW.trod enc Tryz.prog W 0 (fun _ => true) true k 3 [v3] = xs[3]? := e3
        clear e3
        have e4 : DataW.trod enc Tryz.prog W 0 (fun _ => true) true k 9 ((([v0, v1, v2, v3, v4] : List Value).drop 4).take (Tryz.prog.cellsOf 9)) = xs[4]? := hfl 4 _ rfl
        rw [cStr] at e4
        have g4 : DataW.trod enc Tryz.prog W 0 (fun _ => true) true k 9 [v4] = xs[4]? := e4
        clear e4
        have hxs : xs.length = 5 := hxl
        match xs, hxs with
        | [y0, y1, y2, y3, y4], _ =>
          simp only [List.getElem?_cons_zero, List.getElem?_cons_succ] at g0 g1 g2 g3 g4
          obtain ⟨n0, e0, x0, _⟩ := DataW.trod_int Tryz.underlying3 g0
          obtain ⟨n1, e1, x1, _⟩ := DataW.trod_int Tryz.underlying3 g1
          obtain ⟨n2, e2, x2, _⟩ := DataW.trod_int Tryz.underlying3 g2
          obtain ⟨n3, e3, x3, _⟩ := DataW.trod_int Tryz.underlying3 g3
          obtain ⟨s4, e4, x4, _⟩ := DataW.trod_string Tryz.underlying9 g4
          simp only [List.cons.injEq, and_true] at e0 e1 e2 e3 e4
          subst e0 e1 e2 e3 e4
          have z0 := hcell 0 (by omega)
          have z1 := hcell 1 (by omega)
          have z2 := hcell 2 (by omega)
          have z3 := hcell 3 (by omega)
          have z4 := hcell 4 (by omega)
          rw [Deep.add_add] at z0 z1 z2 z3 z4
          simp only [List.getElem?_cons_zero, List.getElem?_cons_succ] at z0 z1 z2 z3 z4
          refine ⟨(⟨n0, n1, n2, n3, s4⟩, [y0.1, y1.1, y2.1, y3.1, y4.1]), ⟨z0, z1, z2, z3, z4⟩, (Prod.mk.inj hxy).1, ?_⟩
          show some y4.1 = _
          rw [x4]
    haveI : Inhabited (S52 × List (DataW H)) := ⟨(z52, [])⟩
    obtain ⟨q, hq⟩ := choose_lt each
    refine ⟨some a, m, (List.range len).map fun i => (q i).1, by simp, by simpa using hl, ⟨by simp, ?_, fun hn => ⟨a, rfl, fun j x hj => ?_⟩⟩, fun hsz => ?_⟩
    · rw [List.length_map, List.length_range]; unfold maxLen at hm; omega
    · have hjl : j < len := by
        have := (List.getElem?_eq_some_iff.1 hj).1
        simpa using this
      have hx' : x = (q j).1 := by
        rw [List.getElem?_map, List.getElem?_range hjl] at hj
        exact (Option.some.inj hj).symm
      subst hx'
      obtain ⟨⟨z0, z1, z2, z3, z4⟩, _⟩ := hq j (by omega)
      refine ⟨_, rfl, k52_mk W (q j).1, fun i u hi => ?_⟩
      show W.cell? (a.add (j * 5 + i)) = some u
      match i, hi with
      | 0, hi => simp only [List.getElem?_cons_zero, Option.some.injEq] at hi; subst hi; exact z0
      | 1, hi => simp only [List.getElem?_cons_zero, List.getElem?_cons_succ, Option.some.injEq] at hi; subst hi; exact z1
      | 2, hi => simp only [List.getElem?_cons_zero, List.getElem?_cons_succ, Option.some.injEq] at hi; subst hi; exact z2
      | 3, hi => simp only [List.getElem?_cons_zero, List.getElem?_cons_succ, Option.some.injEq] at hi; subst hi; exact z3
      | 4, hi => simp only [List.getElem?_cons_zero, List.getElem?_cons_succ, Option.some.injEq] at hi; subst hi; exact z4
      | i + 5, hi => simp at hi
    · have hx1 : d = .slice ((List.range len).map D) ((List.range (m - len)).map fun j => D (len + j)) := (Prod.mk.inj hx).1
      subst hx1
      refine ⟨?_, fun x hx2 => ?_⟩
      · have := hsz ((((List.range len).map D).length + ((List.range (m - len)).map fun j => D (len + j)).length) * Tryz.prog.bytesOf 52) (by simp only [DataW.weights, Tryz.underlying29]; exact List.mem_cons_self)
        rw [b48, List.length_map, List.length_range] at this
        rw [List.length_map, List.length_range]
        have h2 : len * 48 ≤ (len + ((List.range (m - len)).map fun j => D (len + j)).length) * 48 := Nat.mul_le_mul_right _ (Nat.le_add_right _ _)
        exact Nat.le_trans h2 this
      · obtain ⟨i, hi, rfl⟩ := List.mem_map.1 hx2
        have hil : i < len := by simpa using hi
        obtain ⟨_, eD, e4⟩ := hq i (by omega)
        have hmem : (q i).1.f4.data.toList.length ∈ (DataW.slice ((List.range len).map D) ((List.range (m - len)).map fun j => D (len + j))).weights Tryz.prog 29 := by
          simp only [DataW.weights, Tryz.underlying29, List.mem_cons, List.mem_append]
          refine .inr (.inl (weights_all (d := D i) (List.mem_map.2 ⟨i, hi, rfl⟩) ?_))
          rw [eD]
          simp only [DataW.weights, Tryz.underlying52]
          exact DataW.weights_mem_each (j := 4) rfl e4 _ (by simp [DataW.weights])
        have h2 : (q i).1.f4.data.toList.length ≤ reachBytes := hsz _ hmem
        rw [Array.length_toList] at h2
        exact h2
set_option maxRecDepth 100000 in
theorem open_progs {H : Type} {enc : TypeId × Value → H} {W : World} {base : Nat} {v : Value} {d : DataW H} {p : List MemPlace}
    (hok : Value.okWide Tryz.prog W .any base 22 v) (h : DataW.Trod enc Tryz.prog W 0 (fun _ => true) true 22 v d p) :
    ∃ (A : Option Addr) (c : Nat) (xs : List (List S52)), v = .slice A xs.length c ∧ xs.length ≤ c ∧ Kd.C (Kd.slice 52 k52) W A xs.length xs ∧
      ∀ (ts : List TypeId) (ds : List (DataW H)) (j : Nat), (DataW.weightsEach Tryz.prog ts ds).all (· ≤ reachBytes) = true → ts[j]? = some 22 → ds[j]? = some d → ∀ x ∈ xs, x.length * 48 ≤ 140737488351232 ∧ ∀ i ∈ x, i.f4.size ≤ 140737488351232 := by
  obtain ⟨a0, len0, cap0, rfl⟩ := okWide_slice Tryz.underlying22 hok
  obtain ⟨fuel, hf⟩ := h
  rcases open_slice1 Tryz.underlying22 c1p hf with ⟨hcs, hx⟩ | ⟨a, len, cap, m, n, V, D, Pl, hcs, hb, hl, hm, hmm, hx, hel⟩
  · simp [Value.cells] at hcs
    obtain ⟨rfl, rfl, rfl⟩ := hcs
    exact ⟨none, 0, [], rfl, Nat.le_refl _, ⟨rfl, Nat.zero_le _, fun h => absurd h (Nat.lt_irrefl _)⟩, fun ts ds j _ _ _ x hx => by cases hx⟩
  · simp [Value.cells] at hcs
    obtain ⟨rfl, rfl, rfl⟩ := hcs
    simp only [if_true] at hmm
    subst hmm
    have each : ∀ i, i < m → ∃ q : Option Addr × Nat × List S52, W.cell? (a.add i) = some (.slice q.1 q.2.2.length q.2.1) ∧ q.2.2.length ≤ q.2.1 ∧ Kd.C k52 W q.1 q.2.2.length q.2.2 ∧
        ((∀ n ∈ (D i).weights Tryz.prog 29, n ≤ reachBytes) → q.2.2.length * 48 ≤ 140737488351232 ∧ ∀ x ∈ q.2.2, x.f4.size ≤ 140737488351232) := by
      intro i hi
      obtain ⟨h1, h2⟩ := hel i hi
      obtain ⟨A, c, xs, e, hc, hC, hw⟩ := open_prog0 h2
      exact ⟨(A, c, xs), by rw [h1, e], hc, hC, hw⟩
    haveI : Inhabited (Option Addr × Nat × List S52) := ⟨(none, 0, [])⟩
    obtain ⟨q, hq⟩ := choose_lt each
    refine ⟨some a, m, (List.range len0).map fun i => (q i).2.2, by simp, by simpa using hl, ⟨by simp, ?_, fun hn => ⟨a, rfl, fun j x hj => ?_⟩⟩, fun ts ds j hsz ht hd => ?_⟩
    · rw [List.length_map, List.length_range]; unfold maxLen at hm; omega
    · have hjl : j < len0 := by
        have := (List.getElem?_eq_some_iff.1 hj).1
        simpa using this
      have hx' : x = (q j).2.2 := by
        rw [List.getElem?_map, List.getElem?_range hjl] at hj
        exact (Option.some.inj hj).symm
      subst hx'
      obtain ⟨z, hc, hC, _⟩ := hq j (by omega)
      refine ⟨[.slice (q j).1 (q j).2.2.length (q j).2.1], rfl, ⟨_, _, rfl, hc, hC⟩, fun i u hi => ?_⟩
      show W.cell? (a.add (j * 1 + i)) = some u
      match i, hi with
      | 0, hi => simp only [List.getElem?_cons_zero, Option.some.injEq] at hi; subst hi; rw [Nat.mul_one, Nat.add_zero]; exact z
      | i + 1, hi => simp at hi
    · have hx1 : d = .slice ((List.range len0).map D) ((List.range (m - len0)).map fun j => D (len0 + j)) := (Prod.mk.inj hx).1
      subst hx1
      intro x hx2
      obtain ⟨i, hi, rfl⟩ := List.mem_map.1 hx2
      have hil : i < len0 := by simpa using hi
      obtain ⟨_, _, _, hw⟩ := hq i (by omega)
      refine hw fun n hn => ?_
      have hmem : n ∈ (DataW.slice ((List.range len0).map D) ((List.range (m - len0)).map fun j => D (len0 + j))).weights Tryz.prog 22 := by
        simp only [DataW.weights, Tryz.underlying22, List.mem_cons, List.mem_append]
        exact .inr (.inl (weights_all (d := D i) (List.mem_map.2 ⟨i, hi, rfl⟩) hn))
      exact of_decide_eq_true (List.all_eq_true.1 hsz _ (DataW.weights_mem_each ht hd _ hmem))
end Go.Proofs.YtpnmmpfidiegcaaGreatDoor.Card
end
