/- Texts of this claim, together: what the functions return, and what they say in plain words. -/
import Derived.Test.YtpnmmpfidiegcaaUC
import Derived.Test.YtpnmmpfidiegcaaUD
section
namespace Go.Proofs.Ytpnmmpfidiegcaa.C
open Go.RowKit Go.Proofs.YtpnmmpfidiegcaaW.PrintWords Go.Proofs.YtpnmmpfidiegcaaW.PrintLast Go.Proofs.YtpnmmpfidiegcaaW.PrintMore
open Go.Proofs.Ytpnmmpfidiegcaa.Plain (Tr bl OKP Right Reg dec IsT ValidT VI sizes okp_iff)
set_option linter.unusedVariables false
set_option linter.unusedSimpArgs false
def GoodP (p : List S52) (most ch : Nat) : Prop := p.length ≤ most ∧ sizes p ≤ ch ∧ VI p
theorem reg_yes {n : Int} (h : Reg n) : narcissustop_register.f n = some true := by
  unfold narcissustop_register.f
  rw [if_pos h.1, decide_eq_true h.2]
theorem reg_no {n : Int} (h : ¬ Reg n) : narcissustop_register.f n = some false := by
  unfold narcissustop_register.f
  by_cases h0 : n ≥ 0
  · rw [if_pos h0, decide_eq_false (fun h2 => h ⟨h0, h2⟩)]
  · rw [if_neg h0]
theorem nonempty_facts {s : ByteArray} (h : s ≠ ⟨#[]⟩) : s.toList.isEmpty = false ∧ (s.toList == []) = false ∧ bl s ≠ [] := by
  have hb : bl s ≠ [] := fun e => h (by rw [← Plain.bs_bl s, e]; rfl)
  refine ⟨?_, ?_, hb⟩
  · rw [Plain.toL]; cases e : bl s with
    | nil => exact absurd e hb
    | cons a l => rfl
  · rw [Plain.toL]; cases e : bl s with
    | nil => exact absurd e hb
    | cons a l => rfl
theorem sizes_take (p : List S52) (i : Nat) (h : i < p.length) : sizes (p.take (i + 1)) = sizes (p.take i) + p[i].f4.size := by
  unfold sizes
  rw [List.take_succ_eq_append_getElem h, List.map_append, List.sum_append]
  simp
theorem sizes_take_le (p : List S52) (i : Nat) : sizes (p.take i) ≤ sizes p := by
  have : sizes p = sizes (p.take i) + sizes (p.drop i) := by
    unfold sizes
    rw [← List.sum_append, ← List.map_append, List.take_append_drop]
  omega
def Judged (W : World) (p : List S52) (most ch : Nat) (e : Ending) (w' : World) : Prop := ∃ b, e = .returned (.bool b) ∧ (b = true ↔ GoodP p most ch) ∧ Below W.heap.size W w'
theorem Judged.no {W w' : World} {p : List S52} {most ch : Nat} (h : ¬ GoodP p most ch) (hb : Below W.heap.size W w') : Judged W p most ch (.returned (.bool false)) w' := ⟨false, rfl, ⟨fun h => (by cases h), fun hg => absurd hg h⟩, hb⟩
theorem Judged.yes {W w' : World} {p : List S52} {most ch : Nat} (h : GoodP p most ch) (hb : Below W.heap.size W w') : Judged W p most ch (.returned (.bool true)) w' := ⟨true, rfl, ⟨fun _ => h, fun _ => rfl⟩, hb⟩
set_option maxHeartbeats 16000000 in
set_option maxRecDepth 100000 in
theorem good_go (A : Option Addr) (c : Nat) (p : List S52) (most ch : Nat) (w : World) (hC : Kd.C k52 w A p.length p) (hm : most ≤ 4000) (hch : ch ≤ 2000000) (hF : ∀ x ∈ p, x.f4.size ≤ 140737488351232) :
    Calls Try.prog 6 #[.slice A p.length c, .int .i64 most, .int .i64 ch] w (Judged w p most ch) := by
  by_cases hlong : most < p.length
  · have t0 : decide (most < p.length) = true := decide_eq_true hlong
    have HF : Aside0 (¬ GoodP p most ch) := ⟨fun h => by have := h.1; omega⟩
    clear hlong hC hF
    go_enter Try.func6, Try.ntmps6
    go_wp2
    go_ret
    exact Judged.no HF.out (Below.refl _ _)
  have t0 : decide (most < p.length) = false := decide_eq_false hlong
  have hl4 : p.length ≤ 4000 := by omega
  have HLM : Aside0 (p.length ≤ most) := ⟨by omega⟩
  have HC := Aside0.mk hC
  have HFF := Aside0.mk hF
  clear hC hlong hF
  go_enter Try.func6, Try.ntmps6
  go_wp2
  go_loopg [7, 8] (p.length + 1) (fun kq v7 v8 wr => ∃ i s : Nat, v8 = .int .i64 i ∧ v7 = .int .i64 s ∧ i ≤ p.length ∧ s ≤ 2000000 ∧ Aside0 (kq = p.length - i + 1 ∧ s = sizes (p.take i) ∧ s ≤ ch) ∧ Aside0 (∀ j (h : j < p.length), j < i → Right p[j] j p.length) ∧ Aside0 (Below w.heap.size w wr))
  case atStart => exact ⟨0, 0, rfl, rfl, Nat.zero_le _, Nat.zero_le _, ⟨by omega, rfl, Nat.zero_le _⟩, ⟨fun j h h0 => absurd h0 (Nat.not_lt_zero j)⟩, ⟨Below.refl _ _⟩⟩
  case round =>
    obtain ⟨i, s, rfl, rfl, hi, hs2, HI, HR, HB⟩ := hrel
    by_cases hlt : i < p.length
    · have hlt1 : (i : Int) < (p.length : Int) := by omega
      have h0 : (0 : Int) ≤ (i : Int) := by omega
      obtain ⟨ad, rfl, i0, i1, i2, i3, i4⟩ := at_T52 HC.out (i : Int) h0 (by omega)
      have hrd : rd_T52 p (i : Int) = p[i] := by unfold rd_T52; simp [hlt]
      rw [hrd, Int.toNat_natCast] at i0 i1 i2 i3 i4
      have HNV : Aside0 (¬ Right p[i] i p.length → ¬ GoodP p most ch) := ⟨fun h hg => h (hg.2.2 i hlt)⟩
      have HST := Aside0.mk (sizes_take p i hlt)
      have HSN : Aside0 (ch < sizes (p.take (i + 1)) → ¬ GoodP p most ch) := ⟨fun h hg => by have := sizes_take_le p (i + 1); have := hg.2.1; omega⟩
      have HRI : Aside0 (Right p[i] i p.length → ∀ j (h : j < p.length), j < i + 1 → Right p[j] j p.length) := ⟨fun hr j h hj => by
        by_cases e : j = i
        · subst e; exact hr
        · exact HR.out j h (by omega)⟩
      have hf4 := HFF.out p[i] (List.getElem_mem hlt)
      clear hrd HR
      generalize p[i] = x at *
      obtain ⟨f0, f1, f2, f3, f4⟩ := x
      dsimp only at i0 i1 i2 i3 i4 HST hf4
      replace i0 := pw_cell_below HB.out i0
      replace i1 := pw_cell_below HB.out i1
      replace i2 := pw_cell_below HB.out i2
      replace i3 := pw_cell_below HB.out i3
      replace i4 := pw_cell_below HB.out i4
      obtain ⟨k2, rfl⟩ : ∃ k2, gk = k2 + 1 := ⟨gk - 1, by have := HI.out; omega⟩
      have HXX := Aside0.mk (blk_new wr (.cells #[.int .i64 f0, .int .i64 f1, .int .i64 f2, .int .i64 f3, .string f4] 52 (0, 0)))
      have HBC := Aside0.mk (below_alloc HB.out (.cells #[.int .i64 f0, .int .i64 f1, .int .i64 f2, .int .i64 f3, .string f4] 52 (0, 0)))
      by_cases hS : ch < s + f4.size
      · have t1 : decide ((ch : Int) < (s : Int) + (f4.size : Int)) = true := decide_eq_true (by omega)
        have HNO : Aside0 (¬ GoodP p most ch) := ⟨HSN.out (by have := HI.out; rw [HST.out]; omega)⟩
        clear HNV HSN HRI HST HXX
        go_wp2_with (first | (go_at_call 36; first | ((with_reducible refine (narcissustop_register.calls f1 _ _ HG1.out).mono ?_); rintro e w1 ⟨rfl, ⟨n1, rfl⟩⟩) | ((with_reducible refine (narcissustop_register.calls f2 _ _ HG2.out).mono ?_); rintro e w1 ⟨rfl, ⟨n2, rfl⟩⟩) | ((with_reducible refine (narcissustop_register.calls f3 _ _ HG3.out).mono ?_); rintro e w1 ⟨rfl, ⟨n3, rfl⟩⟩)) | (go_at_call 5; first | ((with_reducible refine (grow_yes f4 ch _ HT.out HTS.out).mono ?_); rintro e wg ⟨vg, rfl, hg, hbg⟩; have HBD := Aside0.mk (pw_below_drewN HBC.out n1); have HBC := Aside0.mk (below_then HBD.out HBD.out.size hbg); have c2 := pw_cell_below hbg (pw_cell_below (pw_below_drewN (Below.refl _ _) n1) cx2); clear hg hbg) | ((with_reducible refine (grow_no f4 ch _ HT.out (by omega)).mono ?_); rintro e wg ⟨rfl, hbg⟩; have HBD := Aside0.mk (pw_below_drewN HBC.out n1); have HBC := Aside0.mk (below_then HBD.out HBD.out.size hbg); clear hbg)))
        go_ret
        first | exact Judged.no HNO.out HBC.out | exact Judged.no HNO.out (pw_below_drewN HBC.out _)
      have t1 : decide ((ch : Int) < (s : Int) + (f4.size : Int)) = false := decide_eq_false (by omega)
      by_cases hR1 : Reg f1
      case neg =>
        have HG1 := Aside0.mk (reg_no hR1)
        have HNO : Aside0 (¬ GoodP p most ch) := ⟨HNV.out (by unfold Right; dsimp only; exact fun h => hR1 (by rcases h with h | h | h | h <;> exact h.2.1))⟩
        clear HNV HSN HRI HST HXX
        go_wp2_with (first | (go_at_call 36; first | ((with_reducible refine (narcissustop_register.calls f1 _ _ HG1.out).mono ?_); rintro e w1 ⟨rfl, ⟨n1, rfl⟩⟩) | ((with_reducible refine (narcissustop_register.calls f2 _ _ HG2.out).mono ?_); rintro e w1 ⟨rfl, ⟨n2, rfl⟩⟩) | ((with_reducible refine (narcissustop_register.calls f3 _ _ HG3.out).mono ?_); rintro e w1 ⟨rfl, ⟨n3, rfl⟩⟩)) | (go_at_call 5; first | ((with_reducible refine (grow_yes f4 ch _ HT.out HTS.out).mono ?_); rintro e wg ⟨vg, rfl, hg, hbg⟩; have HBD := Aside0.mk (pw_below_drewN HBC.out n1); have HBC := Aside0.mk (below_then HBD.out HBD.out.size hbg); have c2 := pw_cell_below hbg (pw_cell_below (pw_below_drewN (Below.refl _ _) n1) cx2); clear hg hbg) | ((with_reducible refine (grow_no f4 ch _ HT.out (by omega)).mono ?_); rintro e wg ⟨rfl, hbg⟩; have HBD := Aside0.mk (pw_below_drewN HBC.out n1); have HBC := Aside0.mk (below_then HBD.out HBD.out.size hbg); clear hbg)))
        go_ret
        first | exact Judged.no HNO.out HBC.out | exact Judged.no HNO.out (pw_below_drewN HBC.out _)
      have HG1 := Aside0.mk (reg_yes hR1)
      by_cases e0 : f0 = 0
      · subst e0
        by_cases e3 : f3 = 0
        case neg =>
          have t4 : (f3 != 0) = true := bne_iff_ne.2 e3
          have HNO : Aside0 (¬ GoodP p most ch) := ⟨HNV.out (by unfold Right; dsimp only; intro h; omega)⟩
          clear HNV HSN HRI HST HXX
          go_wp2_with (first | (go_at_call 36; first | ((with_reducible refine (narcissustop_register.calls f1 _ _ HG1.out).mono ?_); rintro e w1 ⟨rfl, ⟨n1, rfl⟩⟩) | ((with_reducible refine (narcissustop_register.calls f2 _ _ HG2.out).mono ?_); rintro e w1 ⟨rfl, ⟨n2, rfl⟩⟩) | ((with_reducible refine (narcissustop_register.calls f3 _ _ HG3.out).mono ?_); rintro e w1 ⟨rfl, ⟨n3, rfl⟩⟩)) | (go_at_call 5; first | ((with_reducible refine (grow_yes f4 ch _ HT.out HTS.out).mono ?_); rintro e wg ⟨vg, rfl, hg, hbg⟩; have HBD := Aside0.mk (pw_below_drewN HBC.out n1); have HBC := Aside0.mk (below_then HBD.out HBD.out.size hbg); have c2 := pw_cell_below hbg (pw_cell_below (pw_below_drewN (Below.refl _ _) n1) cx2); clear hg hbg) | ((with_reducible refine (grow_no f4 ch _ HT.out (by omega)).mono ?_); rintro e wg ⟨rfl, hbg⟩; have HBD := Aside0.mk (pw_below_drewN HBC.out n1); have HBC := Aside0.mk (below_then HBD.out HBD.out.size hbg); clear hbg)))
          go_ret
          first | exact Judged.no HNO.out HBC.out | exact Judged.no HNO.out (pw_below_drewN HBC.out _)
        subst e3
        have cx2 := (blk_cell HXX.out 2).trans rfl
        by_cases hT : GrowOk f4 ch
        case neg =>
          have HT := Aside0.mk hT
          have HNO : Aside0 (¬ GoodP p most ch) := ⟨HNV.out (by unfold Right; dsimp only; rintro (h | h | h | h); exact hT ⟨by omega, h.2.2.2.2.2⟩; all_goals omega)⟩
          clear HNV HSN HRI HST HXX
          go_wp2_with (first | (go_at_call 36; first | ((with_reducible refine (narcissustop_register.calls f1 _ _ HG1.out).mono ?_); rintro e w1 ⟨rfl, ⟨n1, rfl⟩⟩) | ((with_reducible refine (narcissustop_register.calls f2 _ _ HG2.out).mono ?_); rintro e w1 ⟨rfl, ⟨n2, rfl⟩⟩) | ((with_reducible refine (narcissustop_register.calls f3 _ _ HG3.out).mono ?_); rintro e w1 ⟨rfl, ⟨n3, rfl⟩⟩)) | (go_at_call 5; first | ((with_reducible refine (grow_yes f4 ch _ HT.out HTS.out).mono ?_); rintro e wg ⟨vg, rfl, hg, hbg⟩; have HBD := Aside0.mk (pw_below_drewN HBC.out n1); have HBC := Aside0.mk (below_then HBD.out HBD.out.size hbg); have c2 := pw_cell_below hbg (pw_cell_below (pw_below_drewN (Below.refl _ _) n1) cx2); clear hg hbg) | ((with_reducible refine (grow_no f4 ch _ HT.out (by omega)).mono ?_); rintro e wg ⟨rfl, hbg⟩; have HBD := Aside0.mk (pw_below_drewN HBC.out n1); have HBC := Aside0.mk (below_then HBD.out HBD.out.size hbg); clear hbg)))
          go_ret
          first | exact Judged.no HNO.out HBC.out | exact Judged.no HNO.out (pw_below_drewN HBC.out _)
        have HT := Aside0.mk hT
        have HTS : Aside0 (f4.size ≤ 100000000) := ⟨by have := hT.1; omega⟩
        by_cases e2 : f2 = 0
        case neg =>
          have t5 : (f2 != 0) = true := bne_iff_ne.2 e2
          have HNO : Aside0 (¬ GoodP p most ch) := ⟨HNV.out (by unfold Right; dsimp only; intro h; omega)⟩
          clear HNV HSN HRI HST HXX
          go_wp2_with (first | (go_at_call 36; first | ((with_reducible refine (narcissustop_register.calls f1 _ _ HG1.out).mono ?_); rintro e w1 ⟨rfl, ⟨n1, rfl⟩⟩) | ((with_reducible refine (narcissustop_register.calls f2 _ _ HG2.out).mono ?_); rintro e w1 ⟨rfl, ⟨n2, rfl⟩⟩) | ((with_reducible refine (narcissustop_register.calls f3 _ _ HG3.out).mono ?_); rintro e w1 ⟨rfl, ⟨n3, rfl⟩⟩)) | (go_at_call 5; first | ((with_reducible refine (grow_yes f4 ch _ HT.out HTS.out).mono ?_); rintro e wg ⟨vg, rfl, hg, hbg⟩; have HBD := Aside0.mk (pw_below_drewN HBC.out n1); have HBC := Aside0.mk (below_then HBD.out HBD.out.size hbg); have c2 := pw_cell_below hbg (pw_cell_below (pw_below_drewN (Below.refl _ _) n1) cx2); clear hg hbg) | ((with_reducible refine (grow_no f4 ch _ HT.out (by omega)).mono ?_); rintro e wg ⟨rfl, hbg⟩; have HBD := Aside0.mk (pw_below_drewN HBC.out n1); have HBC := Aside0.mk (below_then HBD.out HBD.out.size hbg); clear hbg)))
          go_ret
          first | exact Judged.no HNO.out HBC.out | exact Judged.no HNO.out (pw_below_drewN HBC.out _)
        subst e2
        have HRX := Aside0.mk (HRI.out (.inl ⟨rfl, hR1, rfl, rfl, by have := hT.1; dsimp only; omega, hT.2⟩))
        clear HNV HSN HRI HXX
        go_wp2_with (first | (go_at_call 36; first | ((with_reducible refine (narcissustop_register.calls f1 _ _ HG1.out).mono ?_); rintro e w1 ⟨rfl, ⟨n1, rfl⟩⟩) | ((with_reducible refine (narcissustop_register.calls f2 _ _ HG2.out).mono ?_); rintro e w1 ⟨rfl, ⟨n2, rfl⟩⟩) | ((with_reducible refine (narcissustop_register.calls f3 _ _ HG3.out).mono ?_); rintro e w1 ⟨rfl, ⟨n3, rfl⟩⟩)) | (go_at_call 5; first | ((with_reducible refine (grow_yes f4 ch _ HT.out HTS.out).mono ?_); rintro e wg ⟨vg, rfl, hg, hbg⟩; have HBD := Aside0.mk (pw_below_drewN HBC.out n1); have HBC := Aside0.mk (below_then HBD.out HBD.out.size hbg); have c2 := pw_cell_below hbg (pw_cell_below (pw_below_drewN (Below.refl _ _) n1) cx2); clear hg hbg) | ((with_reducible refine (grow_no f4 ch _ HT.out (by omega)).mono ?_); rintro e wg ⟨rfl, hbg⟩; have HBD := Aside0.mk (pw_below_drewN HBC.out n1); have HBC := Aside0.mk (below_then HBD.out HBD.out.size hbg); clear hbg)))
        go_roundg k2
        case measure => omega
        case rel => exact ⟨i + 1, s + f4.size, by go_num, by go_num, by omega, by omega, ⟨by have := HI.out; omega, by have := HI.out; rw [HST.out]; omega, by omega⟩, HRX, ⟨by first | exact HBC.out | exact pw_below_drewN HBC.out _⟩⟩
      by_cases hE : f4 = ⟨#[]⟩
      case neg =>
        obtain ⟨q1, q2, q3⟩ := nonempty_facts hE
        have t3 : (f0 != 0) = true := bne_iff_ne.2 e0
        have Q3 := Aside0.mk q3
        clear q3 hE
        have HNO : Aside0 (¬ GoodP p most ch) := ⟨HNV.out (by unfold Right; dsimp only; rintro (h | h | h | h); exact absurd h.1 e0; exact Q3.out h.2.2.2.2; exact Q3.out h.2.2.2.2; exact Q3.out h.2.2.2.2.2)⟩
        clear HNV HSN HRI HST HXX
        go_wp2_with (first | (go_at_call 36; first | ((with_reducible refine (narcissustop_register.calls f1 _ _ HG1.out).mono ?_); rintro e w1 ⟨rfl, ⟨n1, rfl⟩⟩) | ((with_reducible refine (narcissustop_register.calls f2 _ _ HG2.out).mono ?_); rintro e w1 ⟨rfl, ⟨n2, rfl⟩⟩) | ((with_reducible refine (narcissustop_register.calls f3 _ _ HG3.out).mono ?_); rintro e w1 ⟨rfl, ⟨n3, rfl⟩⟩)) | (go_at_call 5; first | ((with_reducible refine (grow_yes f4 ch _ HT.out HTS.out).mono ?_); rintro e wg ⟨vg, rfl, hg, hbg⟩; have HBD := Aside0.mk (pw_below_drewN HBC.out n1); have HBC := Aside0.mk (below_then HBD.out HBD.out.size hbg); have c2 := pw_cell_below hbg (pw_cell_below (pw_below_drewN (Below.refl _ _) n1) cx2); clear hg hbg) | ((with_reducible refine (grow_no f4 ch _ HT.out (by omega)).mono ?_); rintro e wg ⟨rfl, hbg⟩; have HBD := Aside0.mk (pw_below_drewN HBC.out n1); have HBC := Aside0.mk (below_then HBD.out HBD.out.size hbg); clear hbg)))
        go_ret
        first | exact Judged.no HNO.out HBC.out | exact Judged.no HNO.out (pw_below_drewN HBC.out _)
      subst hE
      by_cases e2 : f0 = 2
      · subst e2
        by_cases hR2 : Reg f2
        case neg =>
          have HG2 := Aside0.mk (reg_no hR2)
          have HNO : Aside0 (¬ GoodP p most ch) := ⟨HNV.out (by unfold Right; dsimp only; rintro (h | h | h | h); omega; omega; exact hR2 h.2.2.1; omega)⟩
          clear HNV HSN HRI HST HXX
          go_wp2_with (first | (go_at_call 36; first | ((with_reducible refine (narcissustop_register.calls f1 _ _ HG1.out).mono ?_); rintro e w1 ⟨rfl, ⟨n1, rfl⟩⟩) | ((with_reducible refine (narcissustop_register.calls f2 _ _ HG2.out).mono ?_); rintro e w1 ⟨rfl, ⟨n2, rfl⟩⟩) | ((with_reducible refine (narcissustop_register.calls f3 _ _ HG3.out).mono ?_); rintro e w1 ⟨rfl, ⟨n3, rfl⟩⟩)) | (go_at_call 5; first | ((with_reducible refine (grow_yes f4 ch _ HT.out HTS.out).mono ?_); rintro e wg ⟨vg, rfl, hg, hbg⟩; have HBD := Aside0.mk (pw_below_drewN HBC.out n1); have HBC := Aside0.mk (below_then HBD.out HBD.out.size hbg); have c2 := pw_cell_below hbg (pw_cell_below (pw_below_drewN (Below.refl _ _) n1) cx2); clear hg hbg) | ((with_reducible refine (grow_no f4 ch _ HT.out (by omega)).mono ?_); rintro e wg ⟨rfl, hbg⟩; have HBD := Aside0.mk (pw_below_drewN HBC.out n1); have HBC := Aside0.mk (below_then HBD.out HBD.out.size hbg); clear hbg)))
          go_ret
          first | exact Judged.no HNO.out HBC.out | exact Judged.no HNO.out (pw_below_drewN HBC.out _)
        have HG2 := Aside0.mk (reg_yes hR2)
        by_cases hR3 : Reg f3
        case neg =>
          have HG3 := Aside0.mk (reg_no hR3)
          have HNO : Aside0 (¬ GoodP p most ch) := ⟨HNV.out (by unfold Right; dsimp only; rintro (h | h | h | h); omega; omega; exact hR3 h.2.2.2.1; omega)⟩
          clear HNV HSN HRI HST HXX
          go_wp2_with (first | (go_at_call 36; first | ((with_reducible refine (narcissustop_register.calls f1 _ _ HG1.out).mono ?_); rintro e w1 ⟨rfl, ⟨n1, rfl⟩⟩) | ((with_reducible refine (narcissustop_register.calls f2 _ _ HG2.out).mono ?_); rintro e w1 ⟨rfl, ⟨n2, rfl⟩⟩) | ((with_reducible refine (narcissustop_register.calls f3 _ _ HG3.out).mono ?_); rintro e w1 ⟨rfl, ⟨n3, rfl⟩⟩)) | (go_at_call 5; first | ((with_reducible refine (grow_yes f4 ch _ HT.out HTS.out).mono ?_); rintro e wg ⟨vg, rfl, hg, hbg⟩; have HBD := Aside0.mk (pw_below_drewN HBC.out n1); have HBC := Aside0.mk (below_then HBD.out HBD.out.size hbg); have c2 := pw_cell_below hbg (pw_cell_below (pw_below_drewN (Below.refl _ _) n1) cx2); clear hg hbg) | ((with_reducible refine (grow_no f4 ch _ HT.out (by omega)).mono ?_); rintro e wg ⟨rfl, hbg⟩; have HBD := Aside0.mk (pw_below_drewN HBC.out n1); have HBC := Aside0.mk (below_then HBD.out HBD.out.size hbg); clear hbg)))
          go_ret
          first | exact Judged.no HNO.out HBC.out | exact Judged.no HNO.out (pw_below_drewN HBC.out _)
        have HG3 := Aside0.mk (reg_yes hR3)
        have HRX := Aside0.mk (HRI.out (.inr (.inr (.inl ⟨rfl, hR1, hR2, hR3, rfl⟩))))
        clear HNV HSN HRI HXX
        go_wp2_with (first | (go_at_call 36; first | ((with_reducible refine (narcissustop_register.calls f1 _ _ HG1.out).mono ?_); rintro e w1 ⟨rfl, ⟨n1, rfl⟩⟩) | ((with_reducible refine (narcissustop_register.calls f2 _ _ HG2.out).mono ?_); rintro e w1 ⟨rfl, ⟨n2, rfl⟩⟩) | ((with_reducible refine (narcissustop_register.calls f3 _ _ HG3.out).mono ?_); rintro e w1 ⟨rfl, ⟨n3, rfl⟩⟩)) | (go_at_call 5; first | ((with_reducible refine (grow_yes f4 ch _ HT.out HTS.out).mono ?_); rintro e wg ⟨vg, rfl, hg, hbg⟩; have HBD := Aside0.mk (pw_below_drewN HBC.out n1); have HBC := Aside0.mk (below_then HBD.out HBD.out.size hbg); have c2 := pw_cell_below hbg (pw_cell_below (pw_below_drewN (Below.refl _ _) n1) cx2); clear hg hbg) | ((with_reducible refine (grow_no f4 ch _ HT.out (by omega)).mono ?_); rintro e wg ⟨rfl, hbg⟩; have HBD := Aside0.mk (pw_below_drewN HBC.out n1); have HBC := Aside0.mk (below_then HBD.out HBD.out.size hbg); clear hbg)))
        go_roundg k2
        case measure => omega
        case rel => exact ⟨i + 1, s + (⟨#[]⟩ : ByteArray).size, by go_num, by go_num, by omega, by omega, ⟨by have := HI.out; omega, by have := HI.out; rw [HST.out]; omega, by omega⟩, HRX, ⟨by first | exact HBC.out | exact pw_below_drewN HBC.out _⟩⟩
      have t3 : (f0 != 0) = true := bne_iff_ne.2 e0
      have t4 : (f0 != 2) = true := bne_iff_ne.2 e2
      by_cases e3 : f3 = 0
      case neg =>
        have t5 : (f3 != 0) = true := bne_iff_ne.2 e3
        have HNO : Aside0 (¬ GoodP p most ch) := ⟨HNV.out (by unfold Right; dsimp only; intro h; omega)⟩
        clear HNV HSN HRI HST HXX
        go_wp2_with (first | (go_at_call 36; first | ((with_reducible refine (narcissustop_register.calls f1 _ _ HG1.out).mono ?_); rintro e w1 ⟨rfl, ⟨n1, rfl⟩⟩) | ((with_reducible refine (narcissustop_register.calls f2 _ _ HG2.out).mono ?_); rintro e w1 ⟨rfl, ⟨n2, rfl⟩⟩) | ((with_reducible refine (narcissustop_register.calls f3 _ _ HG3.out).mono ?_); rintro e w1 ⟨rfl, ⟨n3, rfl⟩⟩)) | (go_at_call 5; first | ((with_reducible refine (grow_yes f4 ch _ HT.out HTS.out).mono ?_); rintro e wg ⟨vg, rfl, hg, hbg⟩; have HBD := Aside0.mk (pw_below_drewN HBC.out n1); have HBC := Aside0.mk (below_then HBD.out HBD.out.size hbg); have c2 := pw_cell_below hbg (pw_cell_below (pw_below_drewN (Below.refl _ _) n1) cx2); clear hg hbg) | ((with_reducible refine (grow_no f4 ch _ HT.out (by omega)).mono ?_); rintro e wg ⟨rfl, hbg⟩; have HBD := Aside0.mk (pw_below_drewN HBC.out n1); have HBC := Aside0.mk (below_then HBD.out HBD.out.size hbg); clear hbg)))
        go_ret
        first | exact Judged.no HNO.out HBC.out | exact Judged.no HNO.out (pw_below_drewN HBC.out _)
      subst e3
      by_cases e5 : f0 = 5
      · subst e5
        by_cases hJ : -(i : Int) ≤ f2
        case neg =>
          have t6 : decide (f2 < -(i : Int)) = true := decide_eq_true (by omega)
          have HNO : Aside0 (¬ GoodP p most ch) := ⟨HNV.out (by unfold Right; dsimp only; intro h; omega)⟩
          clear HNV HSN HRI HST HXX
          go_wp2_with (first | (go_at_call 36; first | ((with_reducible refine (narcissustop_register.calls f1 _ _ HG1.out).mono ?_); rintro e w1 ⟨rfl, ⟨n1, rfl⟩⟩) | ((with_reducible refine (narcissustop_register.calls f2 _ _ HG2.out).mono ?_); rintro e w1 ⟨rfl, ⟨n2, rfl⟩⟩) | ((with_reducible refine (narcissustop_register.calls f3 _ _ HG3.out).mono ?_); rintro e w1 ⟨rfl, ⟨n3, rfl⟩⟩)) | (go_at_call 5; first | ((with_reducible refine (grow_yes f4 ch _ HT.out HTS.out).mono ?_); rintro e wg ⟨vg, rfl, hg, hbg⟩; have HBD := Aside0.mk (pw_below_drewN HBC.out n1); have HBC := Aside0.mk (below_then HBD.out HBD.out.size hbg); have c2 := pw_cell_below hbg (pw_cell_below (pw_below_drewN (Below.refl _ _) n1) cx2); clear hg hbg) | ((with_reducible refine (grow_no f4 ch _ HT.out (by omega)).mono ?_); rintro e wg ⟨rfl, hbg⟩; have HBD := Aside0.mk (pw_below_drewN HBC.out n1); have HBC := Aside0.mk (below_then HBD.out HBD.out.size hbg); clear hbg)))
          go_ret
          first | exact Judged.no HNO.out HBC.out | exact Judged.no HNO.out (pw_below_drewN HBC.out _)
        have t6 : decide (f2 < -(i : Int)) = false := decide_eq_false (by omega)
        by_cases hK : f2 ≤ (p.length : Int) - (i : Int)
        case neg =>
          have t7 : decide ((p.length : Int) - (i : Int) < f2) = true := decide_eq_true (by omega)
          have HNO : Aside0 (¬ GoodP p most ch) := ⟨HNV.out (by unfold Right; dsimp only; intro h; omega)⟩
          clear HNV HSN HRI HST HXX
          go_wp2_with (first | (go_at_call 36; first | ((with_reducible refine (narcissustop_register.calls f1 _ _ HG1.out).mono ?_); rintro e w1 ⟨rfl, ⟨n1, rfl⟩⟩) | ((with_reducible refine (narcissustop_register.calls f2 _ _ HG2.out).mono ?_); rintro e w1 ⟨rfl, ⟨n2, rfl⟩⟩) | ((with_reducible refine (narcissustop_register.calls f3 _ _ HG3.out).mono ?_); rintro e w1 ⟨rfl, ⟨n3, rfl⟩⟩)) | (go_at_call 5; first | ((with_reducible refine (grow_yes f4 ch _ HT.out HTS.out).mono ?_); rintro e wg ⟨vg, rfl, hg, hbg⟩; have HBD := Aside0.mk (pw_below_drewN HBC.out n1); have HBC := Aside0.mk (below_then HBD.out HBD.out.size hbg); have c2 := pw_cell_below hbg (pw_cell_below (pw_below_drewN (Below.refl _ _) n1) cx2); clear hg hbg) | ((with_reducible refine (grow_no f4 ch _ HT.out (by omega)).mono ?_); rintro e wg ⟨rfl, hbg⟩; have HBD := Aside0.mk (pw_below_drewN HBC.out n1); have HBC := Aside0.mk (below_then HBD.out HBD.out.size hbg); clear hbg)))
          go_ret
          first | exact Judged.no HNO.out HBC.out | exact Judged.no HNO.out (pw_below_drewN HBC.out _)
        have t7 : decide ((p.length : Int) - (i : Int) < f2) = false := decide_eq_false (by omega)
        have HRX := Aside0.mk (HRI.out (.inr (.inr (.inr ⟨rfl, hR1, hJ, hK, rfl, rfl⟩))))
        clear HNV HSN HRI HXX
        go_wp2_with (first | (go_at_call 36; first | ((with_reducible refine (narcissustop_register.calls f1 _ _ HG1.out).mono ?_); rintro e w1 ⟨rfl, ⟨n1, rfl⟩⟩) | ((with_reducible refine (narcissustop_register.calls f2 _ _ HG2.out).mono ?_); rintro e w1 ⟨rfl, ⟨n2, rfl⟩⟩) | ((with_reducible refine (narcissustop_register.calls f3 _ _ HG3.out).mono ?_); rintro e w1 ⟨rfl, ⟨n3, rfl⟩⟩)) | (go_at_call 5; first | ((with_reducible refine (grow_yes f4 ch _ HT.out HTS.out).mono ?_); rintro e wg ⟨vg, rfl, hg, hbg⟩; have HBD := Aside0.mk (pw_below_drewN HBC.out n1); have HBC := Aside0.mk (below_then HBD.out HBD.out.size hbg); have c2 := pw_cell_below hbg (pw_cell_below (pw_below_drewN (Below.refl _ _) n1) cx2); clear hg hbg) | ((with_reducible refine (grow_no f4 ch _ HT.out (by omega)).mono ?_); rintro e wg ⟨rfl, hbg⟩; have HBD := Aside0.mk (pw_below_drewN HBC.out n1); have HBC := Aside0.mk (below_then HBD.out HBD.out.size hbg); clear hbg)))
        go_roundg k2
        case measure => omega
        case rel => exact ⟨i + 1, s + (⟨#[]⟩ : ByteArray).size, by go_num, by go_num, by omega, by omega, ⟨by have := HI.out; omega, by have := HI.out; rw [HST.out]; omega, by omega⟩, HRX, ⟨by first | exact HBC.out | exact pw_below_drewN HBC.out _⟩⟩
      by_cases e134 : f0 = 1 ∨ f0 = 3 ∨ f0 = 4
      · by_cases hR2 : Reg f2
        case neg =>
          have HG2 := Aside0.mk (reg_no hR2)
          have HNO : Aside0 (¬ GoodP p most ch) := ⟨HNV.out (by unfold Right; dsimp only; rintro (h | h | h | h); omega; exact hR2 h.2.2.1; omega; omega)⟩
          clear HNV HSN HRI HST HXX
          rcases e134 with rfl | rfl | rfl
          all_goals
            go_wp2_with (first | (go_at_call 36; first | ((with_reducible refine (narcissustop_register.calls f1 _ _ HG1.out).mono ?_); rintro e w1 ⟨rfl, ⟨n1, rfl⟩⟩) | ((with_reducible refine (narcissustop_register.calls f2 _ _ HG2.out).mono ?_); rintro e w1 ⟨rfl, ⟨n2, rfl⟩⟩) | ((with_reducible refine (narcissustop_register.calls f3 _ _ HG3.out).mono ?_); rintro e w1 ⟨rfl, ⟨n3, rfl⟩⟩)) | (go_at_call 5; first | ((with_reducible refine (grow_yes f4 ch _ HT.out HTS.out).mono ?_); rintro e wg ⟨vg, rfl, hg, hbg⟩; have HBD := Aside0.mk (pw_below_drewN HBC.out n1); have HBC := Aside0.mk (below_then HBD.out HBD.out.size hbg); have c2 := pw_cell_below hbg (pw_cell_below (pw_below_drewN (Below.refl _ _) n1) cx2); clear hg hbg) | ((with_reducible refine (grow_no f4 ch _ HT.out (by omega)).mono ?_); rintro e wg ⟨rfl, hbg⟩; have HBD := Aside0.mk (pw_below_drewN HBC.out n1); have HBC := Aside0.mk (below_then HBD.out HBD.out.size hbg); clear hbg)))
            go_ret
            first | exact Judged.no HNO.out HBC.out | exact Judged.no HNO.out (pw_below_drewN HBC.out _)
        have HG2 := Aside0.mk (reg_yes hR2)
        have HRX := Aside0.mk (HRI.out (.inr (.inl ⟨e134, hR1, hR2, rfl, rfl⟩)))
        clear HNV HSN HRI HXX
        rcases e134 with rfl | rfl | rfl
        all_goals
          go_wp2_with (first | (go_at_call 36; first | ((with_reducible refine (narcissustop_register.calls f1 _ _ HG1.out).mono ?_); rintro e w1 ⟨rfl, ⟨n1, rfl⟩⟩) | ((with_reducible refine (narcissustop_register.calls f2 _ _ HG2.out).mono ?_); rintro e w1 ⟨rfl, ⟨n2, rfl⟩⟩) | ((with_reducible refine (narcissustop_register.calls f3 _ _ HG3.out).mono ?_); rintro e w1 ⟨rfl, ⟨n3, rfl⟩⟩)) | (go_at_call 5; first | ((with_reducible refine (grow_yes f4 ch _ HT.out HTS.out).mono ?_); rintro e wg ⟨vg, rfl, hg, hbg⟩; have HBD := Aside0.mk (pw_below_drewN HBC.out n1); have HBC := Aside0.mk (below_then HBD.out HBD.out.size hbg); have c2 := pw_cell_below hbg (pw_cell_below (pw_below_drewN (Below.refl _ _) n1) cx2); clear hg hbg) | ((with_reducible refine (grow_no f4 ch _ HT.out (by omega)).mono ?_); rintro e wg ⟨rfl, hbg⟩; have HBD := Aside0.mk (pw_below_drewN HBC.out n1); have HBC := Aside0.mk (below_then HBD.out HBD.out.size hbg); clear hbg)))
          go_roundg k2
          case measure => omega
          case rel => exact ⟨i + 1, s + (⟨#[]⟩ : ByteArray).size, by go_num, by go_num, by omega, by omega, ⟨by have := HI.out; omega, by have := HI.out; rw [HST.out]; omega, by omega⟩, HRX, ⟨by first | exact HBC.out | exact pw_below_drewN HBC.out _⟩⟩
      have u1 : (f0 == 0) = false := beq_eq_false_iff_ne.2 e0
      have u2 : (f0 == 1) = false := beq_eq_false_iff_ne.2 (fun h => e134 (.inl h))
      have u3' : (f0 == 3) = false := beq_eq_false_iff_ne.2 (fun h => e134 (.inr (.inl h)))
      have u4' : (f0 == 4) = false := beq_eq_false_iff_ne.2 (fun h => e134 (.inr (.inr h)))
      have u5' : (f0 == 2) = false := beq_eq_false_iff_ne.2 e2
      have u6' : (f0 == 5) = false := beq_eq_false_iff_ne.2 e5
      have HNO : Aside0 (¬ GoodP p most ch) := ⟨HNV.out (by unfold Right; dsimp only; intro h; omega)⟩
      clear HNV HSN HRI HST HXX
      go_wp2_with (first | (go_at_call 36; first | ((with_reducible refine (narcissustop_register.calls f1 _ _ HG1.out).mono ?_); rintro e w1 ⟨rfl, ⟨n1, rfl⟩⟩) | ((with_reducible refine (narcissustop_register.calls f2 _ _ HG2.out).mono ?_); rintro e w1 ⟨rfl, ⟨n2, rfl⟩⟩) | ((with_reducible refine (narcissustop_register.calls f3 _ _ HG3.out).mono ?_); rintro e w1 ⟨rfl, ⟨n3, rfl⟩⟩)) | (go_at_call 5; first | ((with_reducible refine (grow_yes f4 ch _ HT.out HTS.out).mono ?_); rintro e wg ⟨vg, rfl, hg, hbg⟩; have HBD := Aside0.mk (pw_below_drewN HBC.out n1); have HBC := Aside0.mk (below_then HBD.out HBD.out.size hbg); have c2 := pw_cell_below hbg (pw_cell_below (pw_below_drewN (Below.refl _ _) n1) cx2); clear hg hbg) | ((with_reducible refine (grow_no f4 ch _ HT.out (by omega)).mono ?_); rintro e wg ⟨rfl, hbg⟩; have HBD := Aside0.mk (pw_below_drewN HBC.out n1); have HBC := Aside0.mk (below_then HBD.out HBD.out.size hbg); clear hbg)))
      go_ret
      first | exact Judged.no HNO.out HBC.out | exact Judged.no HNO.out (pw_below_drewN HBC.out _)
    · obtain rfl : i = p.length := by omega
      have HF : Aside0 (GoodP p most ch) := ⟨HLM.out, by have := HI.out; rw [List.take_length] at this; omega, fun j h => HR.out j h h⟩
      clear HR hlt
      go_wp2
      go_ret
      exact Judged.yes HF.out HB.out
theorem good_yes {A : Option Addr} {c m : Nat} {p : List S52} {most ch : Nat} {w : World} (hn : p.length = m) (hC : Kd.C k52 w A m p) (hm : most ≤ 4000) (hch : ch ≤ 2000000) (hF : ∀ x ∈ p, x.f4.size ≤ 140737488351232) (h : GoodP p most ch) (M C : Int) (hM : M = (most : Int)) (hCh : C = (ch : Int)) :
    Calls Try.prog 6 #[.slice A m c, .int .i64 M, .int .i64 C] w fun e w' => e = .returned (.bool true) ∧ Below w.heap.size w w' := by
  subst hn hM hCh
  refine (good_go A c p most ch w hC hm hch hF).mono ?_
  rintro e w' ⟨b, rfl, hb, hw⟩
  exact ⟨by rw [hb.2 h], hw⟩
theorem good_no {A : Option Addr} {c m : Nat} {p : List S52} {most ch : Nat} {w : World} (hn : p.length = m) (hC : Kd.C k52 w A m p) (hm : most ≤ 4000) (hch : ch ≤ 2000000) (hF : ∀ x ∈ p, x.f4.size ≤ 140737488351232) (h : ¬ GoodP p most ch) (M C : Int) (hM : M = (most : Int)) (hCh : C = (ch : Int)) :
    Calls Try.prog 6 #[.slice A m c, .int .i64 M, .int .i64 C] w fun e w' => e = .returned (.bool false) ∧ Below w.heap.size w w' := by
  subst hn hM hCh
  refine (good_go A c p most ch w hC hm hch hF).mono ?_
  rintro e w' ⟨b, rfl, hb, hw⟩
  cases b with
  | false => exact ⟨rfl, hw⟩
  | true => exact absurd (hb.1 rfl) h
set_option maxHeartbeats 1000000 in
set_option maxRecDepth 100000 in
theorem whole_yes {A : Option Addr} {c m : Nat} {p : List S52} {w : World} (hn : p.length = m) (hC : Kd.C k52 w A m p) (h : OKP p) :
    Calls Try.prog 37 #[.slice A m c] w fun e w' => e = .returned (.bool true) ∧ Below w.heap.size w w' := by
  have HG : Aside0 (GoodP p 4000 2000000) := ⟨okp_iff.1 h⟩
  have HF : Aside0 (∀ x ∈ p, x.f4.size ≤ 140737488351232) := ⟨fun x hx => by have := Plain.okp_small h x hx; omega⟩
  have HC := Aside0.mk hC
  have HN := Aside0.mk hn
  clear hC h hn
  go_enter Try.func37, Try.ntmps37
  go_wp2_with (go_at_call 6; (with_reducible refine (good_yes HN.out HC.out (Nat.le_refl _) (Nat.le_refl _) HF.out HG.out 4000 2000000 rfl rfl).mono ?_); rintro e w1 ⟨rfl, hb⟩; have HB := Aside0.mk hb; clear hb)
  go_ret
  exact ⟨rfl, HB.out⟩
end Go.Proofs.Ytpnmmpfidiegcaa.C
end
section
namespace Go.Proofs.Ytpnmmpfidiegcaa.Plain
open Go.Proofs.Ytpnmmpfidiegcaa.C
set_option linter.unusedVariables false
set_option linter.unusedSimpArgs false
abbrev zq : Ins := ⟨0, 0, 0, 0, ⟨#[]⟩⟩
def tYes : Tr := .cons .nil .nil
theorem exq_set (a : Int) (t : ByteArray) (r : Rg) : exec ⟨0, a, 0, 0, t⟩ r = some (1, upd r a.toNat (dec (bl t))) := rfl
theorem exq_move (a b : Int) (r : Rg) : exec ⟨1, a, b, 0, ⟨#[]⟩⟩ r = some (1, upd r a.toNat (r b.toNat)) := rfl
theorem exq_cons (a b c : Int) (r : Rg) (h : 1 + (r b.toNat).size + (r c.toNat).size ≤ 2000000) : exec ⟨2, a, b, c, ⟨#[]⟩⟩ r = some (1, upd r a.toNat (.cons (r b.toNat) (r c.toNat))) := by
  show (if 2000000 < 1 + (r b.toNat).size + (r c.toNat).size then none else some ((1 : Int), upd r a.toNat (.cons (r b.toNat) (r c.toNat)))) = _
  rw [if_neg (by omega)]
theorem exq_head (a b : Int) (r : Rg) : exec ⟨3, a, b, 0, ⟨#[]⟩⟩ r = some (1, upd r a.toNat (r b.toNat).hd) := rfl
theorem exq_tail (a b : Int) (r : Rg) : exec ⟨4, a, b, 0, ⟨#[]⟩⟩ r = some (1, upd r a.toNat (r b.toNat).tl) := rfl
theorem exq_jump (a b : Int) (r : Rg) : exec ⟨5, a, b, 0, ⟨#[]⟩⟩ r = some (if (r a.toNat).isNil = true then 1 else b, r) := rfl
theorem go1q {p : List Ins} {a a1 b : Int} {m : Nat} {r s t : Rg} (x : Ins) {d : Int} (hlt : a < (p.length : Int)) (hx : p.getD a.toNat zq = x) (he : exec x r = some (d, s)) (hd : a + d = a1) (h : Goes p m a1 s b t) : Goes p (m + 1) a r b t := by
  rw [Nat.add_comm m 1]
  subst hd
  exact (Goes.step (by omega) (by rw [hx]; exact he)).trans h
def univ : List Ins := [
  ⟨3, 1, 0, 0, ⟨#[]⟩⟩, ⟨4, 8, 0, 0, ⟨#[]⟩⟩, ⟨1, 2, 1, 0, ⟨#[]⟩⟩, ⟨2, 4, 8, 4, ⟨#[]⟩⟩, ⟨0, 14, 0, 0, ⟨#[49, 48, 48]⟩⟩, ⟨5, 2, 3, 0, ⟨#[]⟩⟩,
  ⟨3, 0, 4, 0, ⟨#[]⟩⟩, ⟨5, 14, 122, 0, ⟨#[]⟩⟩, ⟨3, 13, 2, 0, ⟨#[]⟩⟩, ⟨3, 5, 13, 0, ⟨#[]⟩⟩, ⟨4, 6, 13, 0, ⟨#[]⟩⟩, ⟨3, 7, 6, 0, ⟨#[]⟩⟩,
  ⟨4, 6, 6, 0, ⟨#[]⟩⟩, ⟨5, 5, 3, 0, ⟨#[]⟩⟩, ⟨1, 8, 6, 0, ⟨#[]⟩⟩, ⟨5, 14, 70, 0, ⟨#[]⟩⟩, ⟨4, 5, 5, 0, ⟨#[]⟩⟩, ⟨5, 5, 10, 0, ⟨#[]⟩⟩,
  ⟨1, 10, 6, 0, ⟨#[]⟩⟩, ⟨1, 11, 4, 0, ⟨#[]⟩⟩, ⟨5, 10, 2, 0, ⟨#[]⟩⟩, ⟨5, 14, 4, 0, ⟨#[]⟩⟩, ⟨4, 11, 11, 0, ⟨#[]⟩⟩, ⟨4, 10, 10, 0, ⟨#[]⟩⟩,
  ⟨5, 14, -4, 0, ⟨#[]⟩⟩, ⟨3, 8, 11, 0, ⟨#[]⟩⟩, ⟨5, 14, 59, 0, ⟨#[]⟩⟩, ⟨4, 5, 5, 0, ⟨#[]⟩⟩, ⟨5, 5, 19, 0, ⟨#[]⟩⟩, ⟨3, 10, 6, 0, ⟨#[]⟩⟩,
  ⟨1, 11, 4, 0, ⟨#[]⟩⟩, ⟨5, 10, 2, 0, ⟨#[]⟩⟩, ⟨5, 14, 4, 0, ⟨#[]⟩⟩, ⟨4, 11, 11, 0, ⟨#[]⟩⟩, ⟨4, 10, 10, 0, ⟨#[]⟩⟩, ⟨5, 14, -4, 0, ⟨#[]⟩⟩,
  ⟨3, 9, 11, 0, ⟨#[]⟩⟩, ⟨4, 10, 6, 0, ⟨#[]⟩⟩, ⟨1, 11, 4, 0, ⟨#[]⟩⟩, ⟨5, 10, 2, 0, ⟨#[]⟩⟩, ⟨5, 14, 4, 0, ⟨#[]⟩⟩, ⟨4, 11, 11, 0, ⟨#[]⟩⟩,
  ⟨4, 10, 10, 0, ⟨#[]⟩⟩, ⟨5, 14, -4, 0, ⟨#[]⟩⟩, ⟨3, 8, 11, 0, ⟨#[]⟩⟩, ⟨2, 8, 9, 8, ⟨#[]⟩⟩, ⟨5, 14, 39, 0, ⟨#[]⟩⟩, ⟨4, 5, 5, 0, ⟨#[]⟩⟩,
  ⟨5, 5, 11, 0, ⟨#[]⟩⟩, ⟨1, 10, 6, 0, ⟨#[]⟩⟩, ⟨1, 11, 4, 0, ⟨#[]⟩⟩, ⟨5, 10, 2, 0, ⟨#[]⟩⟩, ⟨5, 14, 4, 0, ⟨#[]⟩⟩, ⟨4, 11, 11, 0, ⟨#[]⟩⟩,
  ⟨4, 10, 10, 0, ⟨#[]⟩⟩, ⟨5, 14, -4, 0, ⟨#[]⟩⟩, ⟨3, 8, 11, 0, ⟨#[]⟩⟩, ⟨3, 8, 8, 0, ⟨#[]⟩⟩, ⟨5, 14, 27, 0, ⟨#[]⟩⟩, ⟨4, 5, 5, 0, ⟨#[]⟩⟩,
  ⟨5, 5, 11, 0, ⟨#[]⟩⟩, ⟨1, 10, 6, 0, ⟨#[]⟩⟩, ⟨1, 11, 4, 0, ⟨#[]⟩⟩, ⟨5, 10, 2, 0, ⟨#[]⟩⟩, ⟨5, 14, 4, 0, ⟨#[]⟩⟩, ⟨4, 11, 11, 0, ⟨#[]⟩⟩,
  ⟨4, 10, 10, 0, ⟨#[]⟩⟩, ⟨5, 14, -4, 0, ⟨#[]⟩⟩, ⟨3, 8, 11, 0, ⟨#[]⟩⟩, ⟨4, 8, 8, 0, ⟨#[]⟩⟩, ⟨5, 14, 15, 0, ⟨#[]⟩⟩, ⟨4, 5, 5, 0, ⟨#[]⟩⟩,
  ⟨1, 10, 7, 0, ⟨#[]⟩⟩, ⟨1, 11, 4, 0, ⟨#[]⟩⟩, ⟨5, 10, 2, 0, ⟨#[]⟩⟩, ⟨5, 14, 4, 0, ⟨#[]⟩⟩, ⟨4, 11, 11, 0, ⟨#[]⟩⟩, ⟨4, 10, 10, 0, ⟨#[]⟩⟩,
  ⟨5, 14, -4, 0, ⟨#[]⟩⟩, ⟨3, 8, 11, 0, ⟨#[]⟩⟩, ⟨5, 8, 25, 0, ⟨#[]⟩⟩, ⟨4, 2, 2, 0, ⟨#[]⟩⟩, ⟨0, 13, 0, 0, ⟨#[48]⟩⟩, ⟨2, 3, 13, 3, ⟨#[]⟩⟩,
  ⟨5, 14, -79, 0, ⟨#[]⟩⟩, ⟨1, 11, 4, 0, ⟨#[]⟩⟩, ⟨0, 12, 0, 0, ⟨#[48]⟩⟩, ⟨1, 10, 7, 0, ⟨#[]⟩⟩, ⟨5, 10, 2, 0, ⟨#[]⟩⟩, ⟨5, 14, 6, 0, ⟨#[]⟩⟩,
  ⟨3, 13, 11, 0, ⟨#[]⟩⟩, ⟨2, 12, 13, 12, ⟨#[]⟩⟩, ⟨4, 11, 11, 0, ⟨#[]⟩⟩, ⟨4, 10, 10, 0, ⟨#[]⟩⟩, ⟨5, 14, -6, 0, ⟨#[]⟩⟩, ⟨4, 11, 11, 0, ⟨#[]⟩⟩,
  ⟨2, 11, 8, 11, ⟨#[]⟩⟩, ⟨5, 12, 2, 0, ⟨#[]⟩⟩, ⟨5, 14, 5, 0, ⟨#[]⟩⟩, ⟨3, 13, 12, 0, ⟨#[]⟩⟩, ⟨2, 11, 13, 11, ⟨#[]⟩⟩, ⟨4, 12, 12, 0, ⟨#[]⟩⟩,
  ⟨5, 14, -5, 0, ⟨#[]⟩⟩, ⟨1, 4, 11, 0, ⟨#[]⟩⟩, ⟨5, 14, -23, 0, ⟨#[]⟩⟩, ⟨3, 13, 6, 0, ⟨#[]⟩⟩, ⟨4, 10, 6, 0, ⟨#[]⟩⟩, ⟨5, 13, 9, 0, ⟨#[]⟩⟩,
  ⟨5, 10, 2, 0, ⟨#[]⟩⟩, ⟨5, 14, 6, 0, ⟨#[]⟩⟩, ⟨4, 2, 2, 0, ⟨#[]⟩⟩, ⟨0, 13, 0, 0, ⟨#[48]⟩⟩, ⟨2, 3, 13, 3, ⟨#[]⟩⟩, ⟨4, 10, 10, 0, ⟨#[]⟩⟩,
  ⟨5, 14, -6, 0, ⟨#[]⟩⟩, ⟨5, 14, -110, 0, ⟨#[]⟩⟩, ⟨5, 10, 2, 0, ⟨#[]⟩⟩, ⟨5, 14, 4, 0, ⟨#[]⟩⟩, ⟨4, 3, 3, 0, ⟨#[]⟩⟩, ⟨4, 10, 10, 0, ⟨#[]⟩⟩,
  ⟨5, 14, -4, 0, ⟨#[]⟩⟩, ⟨1, 2, 1, 0, ⟨#[]⟩⟩, ⟨1, 10, 3, 0, ⟨#[]⟩⟩, ⟨5, 10, 2, 0, ⟨#[]⟩⟩, ⟨5, 14, 4, 0, ⟨#[]⟩⟩, ⟨4, 2, 2, 0, ⟨#[]⟩⟩,
  ⟨4, 10, 10, 0, ⟨#[]⟩⟩, ⟨5, 14, -4, 0, ⟨#[]⟩⟩, ⟨5, 14, -123, 0, ⟨#[]⟩⟩]
set_option maxRecDepth 10000 in
theorem univ_length : univ.length = 129 := rfl
def rgOf (l : List Tr) : Rg := fun i => l.getD i .nil
theorem upd_rgOf (l : List Tr) (i : Nat) (t : Tr) (h : i < l.length) : upd (rgOf l) i t = rgOf (l.set i t) := by
  funext j
  unfold upd rgOf
  simp only [List.getD_eq_getElem?_getD]
  by_cases e : j = i
  · subst e; rw [if_pos rfl, List.getElem?_set_self h]; rfl
  · rw [if_neg e, List.getElem?_set_ne (Ne.symm e)]
theorem init_rgOf (x : Tr) : init x = rgOf (x :: List.replicate 14 .nil) := by
  funext i
  unfold init rgOf
  cases i with
  | zero => rfl
  | succ i =>
    rw [if_neg (by omega), List.getD_cons_succ, List.getD_eq_getElem?_getD, List.getElem?_replicate]
    split <;> rfl
section
variable {P : List Ins} {n a : Nat} {b : Int} {l : List Tr} {s : Rg}
theorem g_set (i : Nat) (t : ByteArray) (hlt : a < P.length) (hx : P.getD a zq = ⟨0, (i : Int), 0, 0, t⟩) (hi : i < l.length) (h : Goes P n ((a + 1 : Nat) : Int) (rgOf (l.set i (dec (bl t)))) b s) : Goes P (n + 1) (a : Int) (rgOf l) b s := by
  refine go1q _ (by omega) (by rw [Int.toNat_natCast]; exact hx) (exq_set _ _ _) (a1 := ((a + 1 : Nat) : Int)) (by omega) ?_
  rw [Int.toNat_natCast, upd_rgOf _ _ _ hi]
  exact h
theorem g_move (i j : Nat) (hlt : a < P.length) (hx : P.getD a zq = ⟨1, (i : Int), (j : Int), 0, ⟨#[]⟩⟩) (hi : i < l.length) (h : Goes P n ((a + 1 : Nat) : Int) (rgOf (l.set i (l.getD j .nil))) b s) : Goes P (n + 1) (a : Int) (rgOf l) b s := by
  refine go1q _ (by omega) (by rw [Int.toNat_natCast]; exact hx) (exq_move _ _ _) (a1 := ((a + 1 : Nat) : Int)) (by omega) ?_
  rw [Int.toNat_natCast, Int.toNat_natCast, upd_rgOf _ _ _ hi]
  exact h
theorem g_head (i j : Nat) (hlt : a < P.length) (hx : P.getD a zq = ⟨3, (i : Int), (j : Int), 0, ⟨#[]⟩⟩) (hi : i < l.length) (h : Goes P n ((a + 1 : Nat) : Int) (rgOf (l.set i (l.getD j .nil).hd)) b s) : Goes P (n + 1) (a : Int) (rgOf l) b s := by
  refine go1q _ (by omega) (by rw [Int.toNat_natCast]; exact hx) (exq_head _ _ _) (a1 := ((a + 1 : Nat) : Int)) (by omega) ?_
  rw [Int.toNat_natCast, Int.toNat_natCast, upd_rgOf _ _ _ hi]
  exact h
theorem g_tail (i j : Nat) (hlt : a < P.length) (hx : P.getD a zq = ⟨4, (i : Int), (j : Int), 0, ⟨#[]⟩⟩) (hi : i < l.length) (h : Goes P n ((a + 1 : Nat) : Int) (rgOf (l.set i (l.getD j .nil).tl)) b s) : Goes P (n + 1) (a : Int) (rgOf l) b s := by
  refine go1q _ (by omega) (by rw [Int.toNat_natCast]; exact hx) (exq_tail _ _ _) (a1 := ((a + 1 : Nat) : Int)) (by omega) ?_
  rw [Int.toNat_natCast, Int.toNat_natCast, upd_rgOf _ _ _ hi]
  exact h
theorem g_cons (i j k : Nat) (hlt : a < P.length) (hx : P.getD a zq = ⟨2, (i : Int), (j : Int), (k : Int), ⟨#[]⟩⟩) (hi : i < l.length) (hz : 1 + (l.getD j .nil).size + (l.getD k .nil).size ≤ 2000000) (h : Goes P n ((a + 1 : Nat) : Int) (rgOf (l.set i (.cons (l.getD j .nil) (l.getD k .nil)))) b s) : Goes P (n + 1) (a : Int) (rgOf l) b s := by
  refine go1q _ (by omega) (by rw [Int.toNat_natCast]; exact hx) (exq_cons _ _ _ _ (by rw [Int.toNat_natCast, Int.toNat_natCast]; exact hz)) (a1 := ((a + 1 : Nat) : Int)) (by omega) ?_
  rw [Int.toNat_natCast, Int.toNat_natCast, Int.toNat_natCast, upd_rgOf _ _ _ hi]
  exact h
theorem g_yes (i c : Nat) (d : Int) (hlt : a < P.length) (hx : P.getD a zq = ⟨5, (i : Int), d, 0, ⟨#[]⟩⟩) (hn : (l.getD i .nil).isNil = false) (hd : (a : Int) + d = (c : Int)) (h : Goes P n (c : Int) (rgOf l) b s) : Goes P (n + 1) (a : Int) (rgOf l) b s := by
  refine go1q _ (by omega) (by rw [Int.toNat_natCast]; exact hx) (exq_jump _ _ _) (a1 := (c : Int)) ?_ h
  rw [Int.toNat_natCast, show rgOf l i = l.getD i .nil from rfl, hn, if_neg (by decide)]
  exact hd
theorem g_no (i : Nat) (d : Int) (hlt : a < P.length) (hx : P.getD a zq = ⟨5, (i : Int), d, 0, ⟨#[]⟩⟩) (hn : (l.getD i .nil).isNil = true) (h : Goes P n ((a + 1 : Nat) : Int) (rgOf l) b s) : Goes P (n + 1) (a : Int) (rgOf l) b s := by
  refine go1q _ (by omega) (by rw [Int.toNat_natCast]; exact hx) (exq_jump _ _ _) (a1 := ((a + 1 : Nat) : Int)) ?_ h
  rw [Int.toNat_natCast, show rgOf l i = l.getD i .nil from rfl, hn, if_pos rfl]
  omega
end
theorem count_goes {P : List Ins} {b m n : Nat} (F : Nat → Tr → List Tr) (hb : b + m + 4 ≤ P.length) (h0 : P.getD b zq = ⟨5, 10, 2, 0, ⟨#[]⟩⟩) (h1 : P.getD (b + 1) zq = ⟨5, 14, (m : Int) + 3, 0, ⟨#[]⟩⟩)
    (h2 : P.getD (b + 2 + m) zq = ⟨4, 10, 10, 0, ⟨#[]⟩⟩) (h3 : P.getD (b + 3 + m) zq = ⟨5, 14, -((m : Int) + 3), 0, ⟨#[]⟩⟩)
    (hl : ∀ j t, (F j t).getD 10 .nil = t) (hy : ∀ j t, (F j t).getD 14 .nil = tYes) (hs : ∀ j t u, (F j t).set 10 u = F j u) (hz : ∀ j t, 10 < (F j t).length)
    (body : ∀ j t, j < n → Goes P m ((b + 2 : Nat) : Int) (rgOf (F j t)) ((b + 2 + m : Nat) : Int) (rgOf (F (j + 1) t))) :
    Goes P (n * (m + 3) + 2) (b : Int) (rgOf (F 0 (numT n))) ((b + m + 4 : Nat) : Int) (rgOf (F n .nil)) := by
  have key : ∀ k j, j + k = n → Goes P (k * (m + 3) + 2) (b : Int) (rgOf (F j (numT k))) ((b + m + 4 : Nat) : Int) (rgOf (F n .nil)) := by
    intro k
    induction k with
    | zero =>
      intro j hj
      obtain rfl : j = n := by omega
      rw [show 0 * (m + 3) + 2 = 0 + 1 + 1 from by omega]
      refine g_no 10 2 (by omega) h0 (by rw [hl]; rfl) ?_
      refine g_yes 14 (b + m + 4) ((m : Int) + 3) (by omega) h1 (by rw [hy]; rfl) (by omega) ?_
      exact Goes.refl _ _ _
    | succ k ih =>
      intro j hj
      rw [show (k + 1) * (m + 3) + 2 = (m + ((k * (m + 3) + 2) + 1 + 1)) + 1 from by rw [Nat.succ_mul]; omega]
      refine g_yes 10 (b + 2) 2 (by omega) h0 (by rw [hl]; rfl) (by omega) ?_
      refine (body j (numT (k + 1)) (by omega)).trans ?_
      refine g_tail 10 10 (by omega) h2 (hz _ _) ?_
      rw [hl, hs]
      refine g_yes 14 b (-((m : Int) + 3)) (by omega) (by rw [show b + 2 + m + 1 = b + 3 + m from by omega]; exact h3) (by rw [hy]; rfl) (by omega) ?_
      exact ih (j + 1) (by omega)
  exact key n 0 (by omega)
end Go.Proofs.Ytpnmmpfidiegcaa.Plain
end
