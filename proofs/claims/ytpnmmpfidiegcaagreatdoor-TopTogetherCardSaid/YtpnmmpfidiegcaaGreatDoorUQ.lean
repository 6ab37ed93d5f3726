/- Texts of this claim, together: what the functions return, and what they say in plain words. -/
import Derived.Test.YtpnmmpfidiegcaaGreatDoorUN
import Derived.Test.YtpnmmpfidiegcaaGreatDoorUO
import Derived.Test.YtpnmmpfidiegcaaGreatDoorUL
import Derived.Test.YtpnmmpfidiegcaaGreatDoorUP
import Derived.Lib.SplitLaws
import Derived.Lib.AtoiAll
import Derived.Lib.ItoaNum
import Derived.Lib.IndexMore
import Derived.Lib.IndexLaws
import Derived.Test.YtpnmmpfidiegcaaGreatDoorUI
import Derived.Test.YtpnmmpfidiegcaaGreatDoorUC
section
namespace Go.Proofs.YtpnmmpfidiegcaaGreatDoor.C
open Go.RowKit Go.Proofs.YtpnmmpfidiegcaaGreatDoorW.PrintWords Go.Proofs.YtpnmmpfidiegcaaGreatDoorW.PrintLast Go.Proofs.YtpnmmpfidiegcaaGreatDoorW.PrintMore
set_option linter.unusedVariables false
set_option linter.unusedSimpArgs false
abbrev Prg := List S52
def validAll (k : Nat) : List Prg → Option Bool
  | [] => some true
  | p :: l => (code_Valid.f k p).bind fun v => if v = true then validAll k l else some false
def specAll (k : Nat) (y : ByteArray) : List Prg → Option (Int × List Prg)
  | [] => some (0, [])
  | r :: l => (spec_Spec.f k r y).bind fun t => if t.2 = 0 then (specAll k y l).map fun q => (q.1, t.1 :: q.2) else some (t.2, [])
def togEnd (k : Nat) (q : Int × List Prg) : Option (List Prg × Int) := if q.1 = 0 then (ring_list.f k q.2).bind fun z => if z.2 = 0 then some (q.2, 0) else some ([], z.2) else some ([], q.1)
def togMid (k : Nat) (rs : List Prg) : Option (List Prg × Int) := (ring_list.f k rs).bind fun y => if y.2 = 0 then (specAll k y.1 rs).bind (togEnd k) else some ([], y.2)
def ring_Together.f (k : Nat) (l : List Prg) : Option (List Prg × Int) :=
  (validAll k l).bind fun v => if v = true then (if (l.length : Int) < 1 then some ([], 2) else if (40 : Int) < (l.length : Int) then some ([], 2) else (ring_before.f k).bind fun b =>
    if 0 < b.1.length ∧ b.1.length ≤ 10000 ∧ ∀ p ∈ l, p.length ≤ 10000 then togMid k (l.map fun p => b.1 ++ p) else none) else some ([], 1)
theorem validAll.mono (k : Nat) : ∀ l, LeO (validAll k l) (validAll (k + 1) l)
  | [] => LeO.refl _
  | p :: l => LeO.bind (code_Valid.mono _ _) (fun v => LeO.ite (validAll.mono k l) (LeO.refl _))
theorem specAll.mono (k : Nat) (y : ByteArray) : ∀ l, LeO (specAll k y l) (specAll (k + 1) y l)
  | [] => LeO.refl _
  | p :: l => LeO.bind (spec_Spec.mono _ _ _) (fun v => LeO.ite (LeO.map _ (specAll.mono k y l)) (LeO.refl _))
theorem infoPp : (Tryz.prog.info? 29).map (fun i => (i.zero, i.size, i.bytes)) = some (some (.slice none 0 0), 1, 24) := by kernel_rfl
theorem PRow.cell {w : World} {base h i : Nat} {ps : List Prg} (k : PRow w base h ps i) (j : Nat) (hj : j < ps.length) : ∃ (xs : List Value) (A : Option Addr) (n c : Nat), w.heap[h]? = some (.cells xs.toArray 29 (0, 0)) ∧ xs[j]? = some (.slice A n c) := by
  obtain ⟨xs, _, _, h2, _, h4, _⟩ := k
  obtain ⟨u, hu, A, c, e, _⟩ := h4 j hj
  exact ⟨xs, A, _, c, h2, by rw [hu, e]⟩
theorem PRow.cell2 {w : World} {base h i : Nat} {ps : List Prg} (k : PRow w base h ps i) (j : Nat) (hj : j < ps.length) : ∃ (xs : List Value) (A : Option Addr) (c : Nat), w.heap[h]? = some (.cells xs.toArray 29 (0, 0)) ∧ xs[j]? = some (.slice A ps[j].length c) ∧ ps[j].length ≤ c ∧ Kd.C k52 w A ps[j].length ps[j] := by
  obtain ⟨xs, _, _, h2, _, h4, _⟩ := k
  obtain ⟨u, hu, A, c, e, hc, hC, _⟩ := h4 j hj
  exact ⟨xs, A, c, h2, by rw [hu, e], hc, hC⟩
def empties (n : Nat) : List Value := List.replicate n (.slice none 0 0)
theorem made_empties (n : Nat) : madeCells #[.slice none 0 0] n = (empties n).toArray := by
  apply Array.ext'
  apply List.ext_getElem
  · simp [madeCells, empties]
  · intro i h1 h2
    simp [madeCells, empties, Nat.mod_one]
theorem make_progs (w : World) (n : Nat) (hn : n ≤ 1000000) : ∃ w1, (Instr.makeSlice 22 (.int .i64 (n : Int)) (.int .i64 (n : Int))).run Tryz.prog w = .ok (.slice (some ⟨w.heap.size, 0, none⟩) n n) w1 ∧
    PRow w1 w.heap.size w.heap.size (List.replicate n []) 0 ∧ Below w.heap.size w w1 := by
  refine ⟨w.alloc (.cells (madeCells #[.slice none 0 0] n) 29), run_make_row' (P := Tryz.prog) 22 29 (.slice none 0 0) 24 Tryz.underlying22 infoPp rfl .i64 .i64 n (by omega) (by omega) w, ?_, below_alloc (Below.refl _ _) _⟩
  refine ⟨empties n, fun _ => 0, Nat.le_refl _, by rw [blk_new, made_empties], by simp [empties], fun j hj => ⟨.slice none 0 0, ?_, ?_⟩, fun j hj h => absurd h (by omega)⟩
  · simp at hj
    simp [empties, hj]
  · simp only [List.getElem_replicate]
    exact ⟨none, 0, rfl, Nat.le_refl _, Kd.C_nil _ _, fun ad h => by cases h⟩
theorem list_calls (k h n : Nat) (rs : List Prg) (hn : rs.length = n) (y : ByteArray) (ey : Int) (w : World) (hC : Kd.C (Kd.slice 52 k52) w (some ⟨h, 0, none⟩) rs.length rs) (hf : ring_list.f k rs = some (y, ey)) :
    Calls Tryz.prog 25 #[.slice (some ⟨h, 0, none⟩) n n] w fun e w' => e = .returned (.tuple #[.string y, .int .i64 ey]) ∧ Below w.heap.size w w' := by
  subst hn
  exact ring_list.calls k _ _ rs y ey w hC (Nat.le_refl _) hf
set_option maxHeartbeats 8000000 in
set_option maxRecDepth 100000 in
theorem ring_Together.calls (k : Nat) (A0 : Option Addr) (c0 : Nat) (l0 : List Prg) (r1 : List Prg) (r2 : Int) (w : World) (hr0 : Kd.C (Kd.slice 52 k52) w A0 l0.length l0) (hc0 : l0.length ≤ c0) (hL : LaidW w) (h : ring_Together.f k l0 = some (r1, r2)) :
    Calls Tryz.prog 10 #[.slice A0 l0.length c0] w fun e w' => ∃ v0_ : Value, e = .returned (.tuple #[v0_, .int .i64 r2]) ∧ Kd.S (Kd.slice 52 k52) 29 w' w.heap.size (fun _ => True) v0_ r1 ∧ Below w.heap.size w w' := by
  unfold ring_Together.f at h
  obtain ⟨v, hv, hh⟩ := Option.bind_eq_some_iff.1 h
  clear h
  have HLD := Aside0.mk hL
  have HR0 := Aside0.mk hr0
  have HH := Aside0.mk hh
  have HV := Aside0.mk hv
  have hlm : l0.length ≤ 9223372036854775807 := hr0.2.1
  clear hL hr0 hc0 hh hv
  go_enter Tryz.func10, Tryz.ntmps10
  go_wp2
  go_loopg [15] (l0.length + 1) (fun kq v15 wr => ∃ i : Nat, v15 = .int .i64 i ∧ i ≤ l0.length ∧ Aside0 (kq = l0.length - i + 1) ∧ Aside0 (validAll k (l0.drop i) = some v) ∧ Aside0 (Below w.heap.size w wr))
  case atStart => exact ⟨0, rfl, Nat.zero_le _, ⟨by omega⟩, HV, ⟨Below.refl _ _⟩⟩
  case round =>
    clear HV
    obtain ⟨i, rfl, hi, HI, HA, HB⟩ := hrel
    obtain ⟨k2, rfl⟩ : ∃ k2, gk = k2 + 1 := ⟨gk - 1, by have := HI.out; omega⟩
    by_cases hlt : i < l0.length
    · have ha := HA.out
      rw [List.drop_eq_getElem_cons hlt, validAll] at ha
      obtain ⟨v1, hv1, ha⟩ := Option.bind_eq_some_iff.1 ha
      obtain ⟨ad, A1, c1, rfl, hc, hle, hC⟩ := at_L6 HR0.out (i : Int) (by omega) (by omega)
      have hrd : rd_L6 l0 (i : Int) = l0[i] := by unfold rd_L6; simp [hlt]
      rw [hrd] at hc hle hC
      rw [Int.toNat_natCast] at hc
      replace hc := pw_cell_below HB.out hc
      have HC := Aside0.mk (Kd.C_below hC HB.out)
      have HLE := Aside0.mk hle
      have HV1 := Aside0.mk hv1
      have hl1 : (i : Int) < (l0.length : Int) := by omega
      have hl2 : (0 : Int) ≤ (i : Int) := by omega
      clear hC hle hv1 hrd
      cases v1 with
      | true =>
        have HA2 : Aside0 (validAll k (l0.drop (i + 1)) = some v) := ⟨ha⟩
        clear ha
        go_wp2_with (go_at_call 23; refine (code_Valid.calls k A1 c1 l0[i] true _ HC.out HLE.out HV1.out).mono ?_; rintro e w1 ⟨rfl, hb⟩; have HB1 := Aside0.mk (below_then HB.out HB.out.size hb); clear hb)
        go_roundg k2
        case measure => omega
        case rel => exact ⟨i + 1, by go_num, by omega, ⟨by have := HI.out; omega⟩, HA2, HB1⟩
      | false =>
        have hv0 : v = false := by simpa using ha.symm
        have hq := HH.out
        rw [hv0, if_neg (by decide)] at hq
        have HQ := Aside0.mk hq
        clear ha hv0 hq
        go_wp2_with (go_at_call 23; refine (code_Valid.calls k A1 c1 l0[i] false _ HC.out HLE.out HV1.out).mono ?_; rintro e w1 ⟨rfl, hb⟩; have HB1 := Aside0.mk (below_then HB.out HB.out.size hb); clear hb)
        go_ret2
        have hq := HQ.out
        simp only [Option.some.injEq, Prod.mk.injEq] at hq
        obtain ⟨e1, e2⟩ := hq
        subst e1 e2
        exact ⟨_, rfl, Kd.S_nil _ _ _ _ _, HB1.out⟩
    · have ha := HA.out
      rw [List.drop_of_length_le (by omega), validAll] at ha
      have hq := HH.out
      rw [if_pos (by simpa using ha.symm)] at hq
      clear ha
      by_cases h1 : (l0.length : Int) < 1
      · rw [if_pos h1] at hq
        have HQ := Aside0.mk hq
        have t1 : decide ((l0.length : Int) < 1) = true := decide_eq_true h1
        clear hq
        go_wp2
        go_ret2
        have hq := HQ.out
        simp only [Option.some.injEq, Prod.mk.injEq] at hq
        obtain ⟨e1, e2⟩ := hq
        subst e1 e2
        exact ⟨_, rfl, Kd.S_nil _ _ _ _ _, HB.out⟩
      · rw [if_neg h1] at hq
        by_cases h2 : (40 : Int) < (l0.length : Int)
        · rw [if_pos h2] at hq
          have HQ := Aside0.mk hq
          clear hq
          go_wp2
          go_ret2
          have hq := HQ.out
          simp only [Option.some.injEq, Prod.mk.injEq] at hq
          obtain ⟨e1, e2⟩ := hq
          subst e1 e2
          exact ⟨_, rfl, Kd.S_nil _ _ _ _ _, HB.out⟩
        · rw [if_neg h2] at hq
          obtain ⟨⟨b, eb⟩, hbf, hq⟩ := Option.bind_eq_some_iff.1 hq
          dsimp only at hq
          split at hq
          case isFalse => cases hq
          case isTrue hlim =>
          have HBF := Aside0.mk hbf
          have HQ := Aside0.mk hq
          have HLIM := Aside0.mk hlim
          clear hbf hq hlim HH HA HI
          have hl40 : l0.length ≤ 40 := by omega
          go_wp2_with (go_at_call 24; refine (ring_before.calls k b eb _ (HLD.out.below HB.out) HBF.out).mono ?_; rintro e w1 ⟨vb, rfl, hrb, hbb⟩; obtain ⟨inner, ho⟩ := Kd.R_own hrb; obtain ⟨g, cap, rfl, hgb, hgl⟩ := ho.form HLIM.out.1; have hcap : b.length ≤ cap := own_le ho; have HT := Aside0.mk (own_typed ho g rfl); have HRB := Aside0.mk hrb; have HB1 := Aside0.mk (below_then HB.out HB.out.size hbb); obtain ⟨w2, hmk, hpr, hb2⟩ := make_progs w1 l0.length (by omega); have HPR := Aside0.mk hpr; have HB12 := Aside0.mk hb2; clear hrb hbb ho hpr hb2)
          clear hmk
          have hw1 : w.heap.size ≤ w1.heap.size := HB1.out.size
          have HC1 : Aside0 (Kd.C k52 w1 (some ⟨g, 0, none⟩) b.length b) := ⟨by
            obtain ⟨A, c, e, _, hC⟩ := Kd.R_reads HRB.out
            injection e with e
            subst e
            exact hC⟩
          have HPR2 : Aside0 (PRow w2 w.heap.size w1.heap.size (List.replicate l0.length []) 0) := ⟨by
            obtain ⟨xs, f, h1, h2, h3, h4, h5⟩ := HPR.out
            exact ⟨xs, f, hw1, h2, h3, h4, fun j hj h => absurd h (by omega)⟩⟩
          clear HRB HPR HB
          go_loopg [40] (l0.length + 1) (fun kq v40 wr => ∃ (i : Nat) (ps : List Prg), v40 = .int .i64 i ∧ i ≤ l0.length ∧ Aside0 (kq = l0.length - i + 1) ∧ Aside0 (ps.length = l0.length ∧ ∀ j, j < i → ps[j]? = (l0.map fun p => b ++ p)[j]?) ∧ Aside0 (PRow wr w.heap.size w1.heap.size ps 0) ∧ Aside0 (Below w1.heap.size w1 wr))
          case atStart => exact ⟨0, _, rfl, Nat.zero_le _, ⟨by omega⟩, ⟨by simp, fun j h => absurd h (by omega)⟩, HPR2, HB12⟩
          case round =>
            clear HPR2 HB12
            obtain ⟨i, ps, rfl, hi, HI, HPS, HPR, HB⟩ := hrel
            obtain ⟨k2, rfl⟩ : ∃ k2, gk = k2 + 1 := ⟨gk - 1, by have := HI.out; omega⟩
            by_cases hlt : i < l0.length
            · obtain ⟨ad, A1, c1, rfl, hc, hle, hC⟩ := at_L6 HR0.out (i : Int) (by omega) (by omega)
              have hrd : rd_L6 l0 (i : Int) = l0[i] := by unfold rd_L6; simp [hlt]
              rw [hrd] at hc hle hC
              rw [Int.toNat_natCast] at hc
              have hblk := World.block_lt_of_cell? w _ hc
              have HBW : Aside0 (Below w.heap.size w wr) := ⟨below_then HB1.out HB1.out.size HB.out⟩
              replace hc := pw_cell_below HBW.out hc
              have HC := Aside0.mk (Kd.C_below hC HBW.out)
              have hl1 : (i : Int) < (l0.length : Int) := by omega
              have hl2 : (0 : Int) ≤ (i : Int) := by omega
              have HLE := Aside0.mk hle
              have NE1 : Aside0 ((ad.add i).block ≠ w1.heap.size) := ⟨by omega⟩
              have HXB := Aside0.mk (Kd.C_below HC1.out HB.out)
              have HTB : Aside0 (∃ cells, wr.heap[g]? = some (.cells cells 52 (0, 0))) := ⟨by
                obtain ⟨cells, h⟩ := HT.out
                exact ⟨cells, (HB.out.block _ (blk_lt h)).trans h⟩⟩
              have hps := HPS.out.1
              obtain ⟨xs, A2, n2, c2, hx2, hu0⟩ := HPR.out.cell i (by omega)
              have HX := Aside0.mk hx2
              have HU := Aside0.mk hu0
              have HLL : Aside0 (b.length + l0[i].length ≤ 1000000) := ⟨by
                have h1 := HLIM.out.2.1
                have h2 := HLIM.out.2.2 l0[i] (List.getElem_mem hlt)
                have h3 : l0[i].length ≤ 10000 := h2
                omega⟩
              clear hC hle hrd hblk hps hx2 hu0
              have hcap1 : (b.length : Int) ≤ (cap : Int) := by omega
              go_wp2
              go_region_held3 (fun w' => w'.cell? (ad.add i) = some (.slice A1 l0[i].length c1))
                (first
                  | go_keep
                  | exact pw_cell_below hb3 hc
                  | exact (World.cell?_of_block (a := ad.add i) (Below.heap_setCell w3 ⟨w1.heap.size, i, none⟩ _ _ NE1.out)).trans (pw_cell_below hb3 hc))
                (first
                  | ((refine step_append_clip (by rfl) (.tmp 50) (.tmp 54) (by rfl) g b l0[i] A1 c1 (by rfl) (by rfl) (Kd.C_below HXB.out (below_drew (Below.refl _ _))) (HTB.out) (Kd.C_below HC.out (below_drew (Below.refl _ _))) HLL.out ?_; intro A3 c3 w3 hrd3 hb3; have ct3 : w3.cell? ⟨w1.heap.size, i, none⟩ = some (.slice A2 n2 c2) := (blk_cell ((hb3.block _ (blk_lt HX.out)).trans HX.out) i).trans (by simpa using HU.out); have ft3 : w3.frozen? ⟨w1.heap.size, i, none⟩ = false := blk_frozen ((hb3.block _ (blk_lt HX.out)).trans HX.out) i)))
              have HB3 : Aside0 (Below wr.heap.size wr w3) := ⟨Below.trans (below_drew (Below.refl wr.heap.size wr)) hb3⟩
              have HRD := Aside0.mk hrd3
              clear hb3 hrd3 ct3 ft3 hc
              go_wp2
              go_roundg k2
              case measure => omega
              case rel =>
                have hp := (HPR.out.below HB3.out).put i (by have := HPS.out.1; omega) HRD.out
                rw [Nat.zero_min] at hp
                refine ⟨i + 1, ps.set i (b ++ l0[i]), by go_num, by omega, ⟨by have := HI.out; omega⟩, ⟨by rw [List.length_set]; exact HPS.out.1, fun j hj => ?_⟩, ⟨hp⟩, ⟨(below_then HB.out HB.out.size HB3.out).setCell (p := ⟨w1.heap.size, i, none⟩) (Nat.le_refl _) _⟩⟩
                by_cases e : j = i
                · subst e
                  rw [List.getElem?_set_self (by have := HPS.out.1; omega)]
                  simp [hlt]
                · rw [List.getElem?_set_ne (by omega)]
                  exact HPS.out.2 j (by omega)
            · obtain rfl : ps = l0.map fun p => b ++ p := by
                apply List.ext_getElem?
                intro j
                by_cases hj : j < l0.length
                · exact HPS.out.2 j (by omega)
                · have h1 := HPS.out.1
                  rw [List.getElem?_eq_none (by omega), List.getElem?_eq_none (by simp; omega)]
              clear HPS
              have hq := HQ.out
              unfold togMid at hq
              obtain ⟨⟨y, ey⟩, hy, hq⟩ := Option.bind_eq_some_iff.1 hq
              have HYL := Aside0.mk hy
              have hrl : (l0.map fun p => b ++ p).length = l0.length := by simp
              have HRL := Aside0.mk hrl
              have HBW : Aside0 (Below w.heap.size w wr) := ⟨below_then HB1.out HB1.out.size HB.out⟩
              have hcr := HPR.out.reads (by omega)
              rw [hrl] at hcr
              dsimp only at hq
              clear hy hrl hcr
              by_cases hey : ey = 0
              · subst hey
                rw [if_pos rfl] at hq
                obtain ⟨⟨e3, es⟩, hsp, hq⟩ := Option.bind_eq_some_iff.1 hq
                have HSP := Aside0.mk hsp
                have HQE := Aside0.mk hq
                clear hq hsp HQ
                go_wp2_with (go_at_call 25; refine (list_calls k _ _ _ HRL.out y 0 _ (HPR.out.reads (by rw [HRL.out]; omega)) HYL.out).mono ?_; rintro e w4 ⟨rfl, hb4⟩; have HB4 := Aside0.mk hb4; clear hb4)
                have HPR4 := Aside0.mk (HPR.out.below HB4.out)
                have HB14 := Aside0.mk (below_then HB.out HB.out.size HB4.out)
                clear HPR HB HB4 HC1 HT HR0 HBW HLIM
                go_loopg [68] (l0.length + 1) (fun kq v68 wr => ∃ (i : Nat) (ps : List Prg), v68 = .int .i64 i ∧ i ≤ l0.length ∧ Aside0 (kq = l0.length - i + 1) ∧ Aside0 (ps.length = l0.length ∧ i ≤ es.length ∧ (∀ j, j < i → ps[j]? = es[j]?) ∧ ∀ j, i ≤ j → ps[j]? = (l0.map fun p => b ++ p)[j]?) ∧ Aside0 (specAll k y ((l0.map fun p => b ++ p).drop i) = some (e3, es.drop i)) ∧ Aside0 (PRow wr w.heap.size w1.heap.size ps i) ∧ Aside0 (Below w1.heap.size w1 wr))
                case atStart => exact ⟨0, _, rfl, Nat.zero_le _, ⟨by omega⟩, ⟨HRL.out, Nat.zero_le _, fun j h => absurd h (by omega), fun j _ => rfl⟩, HSP, HPR4, HB14⟩
                case round =>
                  clear HPR4 HB14 HSP
                  obtain ⟨i, ps, rfl, hi, HI, HPS, HSP, HPR, HB⟩ := hrel
                  obtain ⟨k2, rfl⟩ : ∃ k2, gk = k2 + 1 := ⟨gk - 1, by have := HI.out; omega⟩
                  by_cases hlt : i < l0.length
                  · have hli : i < ps.length := by have := HPS.out.1; omega
                    have hri : i < (l0.map fun p => b ++ p).length := by rw [HRL.out]; exact hlt
                    have hsp := HSP.out
                    rw [List.drop_eq_getElem_cons hri, specAll] at hsp
                    have hpi : (l0.map fun p => b ++ p)[i] = ps[i] := by
                      have h1 := HPS.out.2.2.2 i (Nat.le_refl _)
                      rw [List.getElem?_eq_getElem hli, List.getElem?_eq_getElem hri] at h1
                      exact (Option.some.inj h1).symm
                    rw [hpi] at hsp
                    obtain ⟨⟨t1, t2⟩, hs1, hsp⟩ := Option.bind_eq_some_iff.1 hsp
                    dsimp only at hsp
                    obtain ⟨xs, A2, c2, hx2, hu0, hle, hC⟩ := HPR.out.cell2 i hli
                    have HX := Aside0.mk hx2
                    have HU := Aside0.mk hu0
                    have HLE := Aside0.mk hle
                    have HC := Aside0.mk hC
                    have HS1 := Aside0.mk hs1
                    have HSQ := Aside0.mk hsp
                    have cm : wr.cell? ⟨w1.heap.size, i, none⟩ = some (.slice A2 ps[i].length c2) := (blk_cell hx2 i).trans (by simpa using hu0)
                    have hl1 : (i : Int) < (l0.length : Int) := by omega
                    have hl2 : (0 : Int) ≤ (i : Int) := by omega
                    have HLI := Aside0.mk hli
                    clear hpi hri hsp hs1 hx2 hu0 hle hC
                    by_cases ht : t2 = 0
                    · subst ht
                      go_wp2_with (go_at_call 26; refine (spec_Spec.calls k A2 c2 ps[i] y t1 0 _ HC.out HLE.out HS1.out).mono ?_; rintro e w5 ⟨v5, rfl, hr5, hb5⟩; obtain ⟨A5, c5, rfl⟩ := Kd.R_slice hr5; have HR5 := Aside0.mk hr5; have HB5 := Aside0.mk hb5; have ct5 : w5.cell? ⟨w1.heap.size, i, none⟩ = some (.slice A2 ps[i].length c2) := pw_cell_below hb5 cm; have ft5 : w5.frozen? ⟨w1.heap.size, i, none⟩ = false := blk_frozen ((hb5.block _ (blk_lt HX.out)).trans HX.out) i; clear hr5 hb5)
                      go_roundg k2
                      case measure => omega
                      case rel =>
                        have hsq := HSQ.out
                        first | rw [if_pos rfl] at hsq | rw [if_pos trivial] at hsq
                        obtain ⟨⟨e4, es4⟩, h4, h5⟩ := Option.map_eq_some_iff.1 hsq
                        simp only [Prod.mk.injEq] at h5
                        obtain ⟨rfl, h5⟩ := h5
                        have hil : i < es.length := by
                          have := congrArg List.length h5
                          rw [List.length_drop, List.length_cons] at this
                          omega
                        rw [List.drop_eq_getElem_cons hil] at h5
                        simp only [List.cons.injEq] at h5
                        have hwr : w.heap.size ≤ wr.heap.size := Nat.le_trans hw1 HB.out.size
                        refine ⟨i + 1, ps.set i t1, by go_num, by omega, ⟨by have := HI.out; omega⟩, ⟨by rw [List.length_set]; exact HPS.out.1, hil, fun j hj => ?_, fun j hj => ?_⟩, ⟨by rw [h4, h5.2]⟩, ⟨HPR.out.own HB5.out hwr hli HR5.out⟩, ⟨(below_then HB.out HB.out.size HB5.out).setCell (p := ⟨w1.heap.size, i, none⟩) (Nat.le_refl _) _⟩⟩
                        · by_cases e : j = i
                          · subst e
                            rw [List.getElem?_set_self hli, List.getElem?_eq_getElem hil, h5.1]
                          · rw [List.getElem?_set_ne (by omega)]
                            exact HPS.out.2.2.1 j (by omega)
                        · rw [List.getElem?_set_ne (by omega)]
                          exact HPS.out.2.2.2 j (by omega)
                    · have tz : (t2 != 0) = true := bne_iff_ne.2 ht
                      have hsq := HSQ.out
                      rw [if_neg ht] at hsq
                      have he3 : t2 = e3 := by
                        simp only [Option.some.injEq, Prod.mk.injEq] at hsq
                        exact hsq.1
                      have hqe := HQE.out
                      unfold togEnd at hqe
                      dsimp only at hqe
                      rw [if_neg (by rw [← he3]; exact ht), ← he3] at hqe
                      simp only [Option.some.injEq, Prod.mk.injEq] at hqe
                      have HF := Aside0.mk hqe
                      clear hsq hqe he3 HSQ ht
                      go_wp2_with (go_at_call 26; refine (spec_Spec.calls k A2 c2 ps[i] y t1 t2 _ HC.out HLE.out HS1.out).mono ?_; rintro e w5 ⟨v5, rfl, hr5, hb5⟩; obtain ⟨A5, c5, rfl⟩ := Kd.R_slice hr5; have HB5 := Aside0.mk hb5; have ct5 : w5.cell? ⟨w1.heap.size, i, none⟩ = some (.slice A2 ps[i].length c2) := pw_cell_below hb5 cm; have ft5 : w5.frozen? ⟨w1.heap.size, i, none⟩ = false := blk_frozen ((hb5.block _ (blk_lt HX.out)).trans HX.out) i; clear hr5 hb5)
                      go_ret2
                      obtain ⟨e1, e2⟩ := HF.out
                      subst e1 e2
                      exact ⟨_, rfl, Kd.S_nil _ _ _ _ _, (below_then HB1.out HB1.out.size (below_then HB.out HB.out.size HB5.out)).setCell (p := ⟨w1.heap.size, i, none⟩) hw1 _⟩
                  · obtain rfl : i = l0.length := by omega
                    have hsp := HSP.out
                    rw [List.drop_of_length_le (by rw [HRL.out]; exact Nat.le_refl _), specAll] at hsp
                    simp only [Option.some.injEq, Prod.mk.injEq] at hsp
                    obtain ⟨he3, hes⟩ := hsp
                    subst he3
                    have hle := List.drop_eq_nil_iff.1 hes.symm
                    obtain rfl : ps = es := by
                      apply List.ext_getElem?
                      intro j
                      by_cases hj : j < l0.length
                      · exact HPS.out.2.2.1 j hj
                      · rw [List.getElem?_eq_none (by have := HPS.out.1; omega), List.getElem?_eq_none (by omega)]
                    have hpl := HPS.out.1
                    have hqe := HQE.out
                    unfold togEnd at hqe
                    rw [if_pos rfl] at hqe
                    obtain ⟨⟨z, ez⟩, hz, hqe⟩ := Option.bind_eq_some_iff.1 hqe
                    dsimp only at hqe hz
                    have HPL := Aside0.mk hpl
                    have HZ := Aside0.mk hz
                    clear hle hes hpl hz HSP HPS
                    by_cases hez : ez = 0
                    · subst hez
                      rw [if_pos rfl] at hqe
                      simp only [Option.some.injEq, Prod.mk.injEq] at hqe
                      have HF := Aside0.mk hqe
                      clear hqe
                      go_wp2_with (go_at_call 25; refine (list_calls k _ _ _ HPL.out z 0 _ (HPR.out.reads (by rw [HPL.out]; omega)) HZ.out).mono ?_; rintro e w6 ⟨rfl, hb6⟩; have HB6 := Aside0.mk hb6; clear hb6)
                      go_ret2
                      obtain ⟨e1, e2⟩ := HF.out
                      subst e1 e2
                      refine ⟨_, rfl, ?_, below_then (below_then HB1.out HB1.out.size HB.out) (Nat.le_trans hw1 HB.out.size) HB6.out⟩
                      have := (HPR.out.below HB6.out)
                      rw [← HPL.out] at this
                      have := this.owned (by rw [HPL.out]; omega)
                      rw [HPL.out] at this
                      exact this
                    · have tz : (ez != 0) = true := bne_iff_ne.2 hez
                      rw [if_neg hez] at hqe
                      simp only [Option.some.injEq, Prod.mk.injEq] at hqe
                      have HF := Aside0.mk hqe
                      clear hqe hez
                      go_wp2_with (go_at_call 25; refine (list_calls k _ _ _ HPL.out z ez _ (HPR.out.reads (by rw [HPL.out]; omega)) HZ.out).mono ?_; rintro e w6 ⟨rfl, hb6⟩; have HB6 := Aside0.mk hb6; clear hb6)
                      go_ret2
                      obtain ⟨e1, e2⟩ := HF.out
                      subst e1 e2
                      exact ⟨_, rfl, Kd.S_nil _ _ _ _ _, below_then (below_then HB1.out HB1.out.size HB.out) (Nat.le_trans hw1 HB.out.size) HB6.out⟩
              · have tz : (ey != 0) = true := bne_iff_ne.2 hey
                rw [if_neg hey] at hq
                simp only [Option.some.injEq, Prod.mk.injEq] at hq
                have HF := Aside0.mk hq
                clear hq hey HQ
                go_wp2_with (go_at_call 25; refine (list_calls k _ _ _ HRL.out y ey _ (HPR.out.reads (by rw [HRL.out]; omega)) HYL.out).mono ?_; rintro e w4 ⟨rfl, hb4⟩; have HB4 := Aside0.mk hb4; clear hb4)
                go_ret2
                obtain ⟨e1, e2⟩ := HF.out
                subst e1 e2
                exact ⟨_, rfl, Kd.S_nil _ _ _ _ _, below_then HBW.out HBW.out.size HB4.out⟩
end Go.Proofs.YtpnmmpfidiegcaaGreatDoor.C
end
section
namespace Go.Proofs.YtpnmmpfidiegcaaGreatDoor.Plain
open Go
def joinS (sep : List UInt8) : List (List UInt8) → List UInt8
  | [] => []
  | [x] => x
  | x :: y :: l => x ++ sep ++ joinS sep (y :: l)
theorem occAt_first {s t : List UInt8} {c : UInt8} {i : Nat} (h : Lib.occAt s (c :: t) i = true) : s[i]? = some c := Lib.occAt_head rfl h
theorem index_part {c : UInt8} {t x r : List UInt8} (hx : c ∉ x) : Lib.index (x ++ (c :: t) ++ r) (c :: t) = x.length := by
  refine Lib.index_first (by simp) ?_ ?_
  · unfold Lib.occAt
    rw [List.append_assoc, List.drop_left]
    exact List.isPrefixOf_iff_prefix.2 (List.prefix_append _ _)
  · intro j hj
    cases hh : Lib.occAt (x ++ (c :: t) ++ r) (c :: t) j with
    | false => rfl
    | true =>
      have := occAt_first hh
      rw [List.append_assoc, List.getElem?_append_left hj] at this
      exact absurd (List.mem_of_getElem? this) hx
theorem index_last {c : UInt8} {t x : List UInt8} (hx : c ∉ x) : Lib.index x (c :: t) = -1 := by
  refine Lib.index_none fun j _ => ?_
  cases hh : Lib.occAt x (c :: t) j with
  | false => rfl
  | true => exact absurd (List.mem_of_getElem? (occAt_first hh)) hx
theorem split_joinS (c : UInt8) (t : List UInt8) : ∀ (l : List (List UInt8)), l ≠ [] → (∀ x ∈ l, c ∉ x) → Lib.splitK (c :: t) 0 (Lib.count (joinS (c :: t) l) (c :: t)) (joinS (c :: t) l) = l
  | [], h, _ => absurd rfl h
  | [x], _, h => by
    have hi := index_last (t := t) (h x (by simp))
    simp only [joinS]
    rw [Lib.count_miss hi]
    rfl
  | x :: y :: l, _, h => by
    have hi : Lib.index (joinS (c :: t) (x :: y :: l)) (c :: t) = (x.length : Int) := index_part (h x (by simp))
    have hd : (joinS (c :: t) (x :: y :: l)).drop (x.length + (c :: t).length) = joinS (c :: t) (y :: l) := by
      rw [joinS, show x.length + (c :: t).length = (x ++ (c :: t)).length by simp, List.drop_left]
    rw [Lib.count_hit (by simp) hi, hd, Nat.add_comm 1, Lib.splitK, hi]
    rw [if_neg (by simp), Int.toNat_natCast, Nat.add_zero, hd, split_joinS c t (y :: l) (by simp) (fun z hz => h z (List.mem_cons_of_mem _ hz))]
    congr 1
    simp [joinS]
end Go.Proofs.YtpnmmpfidiegcaaGreatDoor.Plain
end
section
namespace Go.Proofs.YtpnmmpfidiegcaaGreatDoor.Plain
open Go.Proofs.YtpnmmpfidiegcaaGreatDoor.C
open Go.RowKit Go.Proofs.YtpnmmpfidiegcaaGreatDoorW.PrintWords Go.Proofs.YtpnmmpfidiegcaaGreatDoorW.PrintLast Go.Proofs.YtpnmmpfidiegcaaGreatDoorW.PrintMore
set_option linter.unusedVariables false
set_option linter.unusedSimpArgs false
theorem split_tells (s sep : ByteArray) (hz : s.size ≤ 4000000) (hs : 1 ≤ sep.size) :
    ∃ l, strings_Split.f s sep = some l ∧ l.map bl = Lib.splitK (bl sep) 0 (Lib.count (bl s) (bl sep)) (bl s) ∧ l.length ≤ 4000001 ∧ ∀ t ∈ l, t.size ≤ 4000000 := by
  unfold strings_Split.f
  rw [if_pos ⟨by omega, hs⟩]
  refine ⟨_, rfl, Lib.splitB_data sep 0 _ s, ?_, ?_⟩
  · have h1 := Lib.splitB_length_le sep 0 (Lib.countB s sep) s
    have h2 := Lib.countB_le sep hs _ s (Nat.le_refl _)
    omega
  · have hk : ∀ (k : Nat) (s : ByteArray), ∀ t ∈ Lib.splitB sep 0 k s, t.size ≤ s.size := by
      intro k
      induction k with
      | zero => intro s t ht; rw [Lib.splitB] at ht; rw [List.mem_singleton.1 ht]; exact Nat.le_refl _
      | succ k ih =>
        intro s t ht
        unfold Lib.splitB at ht
        split at ht
        · rw [List.mem_singleton.1 ht]; exact Nat.le_refl _
        · rcases List.mem_cons.1 ht with rfl | ht
          · rw [ByteArray.size_extract]; omega
          · have := ih _ t ht
            rw [ByteArray.size_extract] at this
            omega
    intro t ht
    have := hk _ s t ht
    omega
end Go.Proofs.YtpnmmpfidiegcaaGreatDoor.Plain
end
section
namespace Go.Proofs.YtpnmmpfidiegcaaGreatDoor.Plain
open Go.Proofs.YtpnmmpfidiegcaaGreatDoor.C
open Go.RowKit Go.Proofs.YtpnmmpfidiegcaaGreatDoorW.PrintWords Go.Proofs.YtpnmmpfidiegcaaGreatDoorW.PrintLast Go.Proofs.YtpnmmpfidiegcaaGreatDoorW.PrintMore
set_option linter.unusedVariables false
set_option linter.unusedSimpArgs false
def beforeW : List (List UInt8) := [[104, 101, 97, 100, 32, 50, 32, 48], [116, 97, 105, 108, 32, 51, 32, 48], [115, 101, 116, 32, 48, 32, 48], [109, 111, 118, 101, 32, 52, 32, 50], [115, 101, 116, 32, 55, 32, 49, 48, 48], [106, 117, 109, 112, 32, 55, 32, 52], [104, 101, 97, 100, 32, 54, 32, 52], [99, 111, 110, 115, 32, 53, 32, 54, 32, 53], [116, 97, 105, 108, 32, 52, 32, 52], [106, 117, 109, 112, 32, 52, 32, 45, 51], [99, 111, 110, 115, 32, 56, 32, 55, 32, 50], [99, 111, 110, 115, 32, 56, 32, 49, 32, 56], [115, 101, 116, 32, 57, 32, 49, 48, 49, 49, 48, 48, 48], [115, 101, 116, 32, 49, 48, 32, 49, 49, 48, 49, 48, 48, 49, 48, 49, 49, 48, 48, 48], [106, 117, 109, 112, 32, 55, 32, 55], [104, 101, 97, 100, 32, 54, 32, 53], [99, 111, 110, 115, 32, 54, 32, 57, 32, 54], [99, 111, 110, 115, 32, 54, 32, 49, 48, 32, 54], [99, 111, 110, 115, 32, 54, 32, 56, 32, 54], [99, 111, 110, 115, 32, 48, 32, 54, 32, 48], [116, 97, 105, 108, 32, 53, 32, 53], [106, 117, 109, 112, 32, 53, 32, 45, 54], [99, 111, 110, 115, 32, 48, 32, 48, 32, 51], [115, 101, 116, 32, 50, 32, 48], [115, 101, 116, 32, 51, 32, 48], [115, 101, 116, 32, 54, 32, 48], [115, 101, 116, 32, 55, 32, 48], [115, 101, 116, 32, 56, 32, 48], [115, 101, 116, 32, 57, 32, 48], [115, 101, 116, 32, 49, 48, 32, 48]]
theorem each_one {s : ByteArray} {l : List ByteArray} {p : List Ins} {i : Ins} {r : Option (Option (List Ins))} (h : code_instr.f s = some (i, true)) (hp : p.length < 1000) (k : eachInstr l (p ++ [i]) = r) : eachInstr (s :: l) p = r := by
  rw [eachInstr, h, Option.bind_some, if_pos rfl, if_pos (by omega), k]
set_option maxRecDepth 100000 in
theorem before_each : eachInstr (beforeW.map bs) [] = some (some ringHead) := by
  refine each_one (i := ⟨3, 2, 0, 0, ⟨#[]⟩⟩) (by kernel_rfl) (by decide) ?_
  refine each_one (i := ⟨4, 3, 0, 0, ⟨#[]⟩⟩) (by kernel_rfl) (by decide) ?_
  refine each_one (i := ⟨0, 0, 0, 0, ⟨#[48]⟩⟩) (by kernel_rfl) (by decide) ?_
  refine each_one (i := ⟨1, 4, 2, 0, ⟨#[]⟩⟩) (by kernel_rfl) (by decide) ?_
  refine each_one (i := ⟨0, 7, 0, 0, ⟨#[49, 48, 48]⟩⟩) (by kernel_rfl) (by decide) ?_
  refine each_one (i := ⟨5, 7, 4, 0, ⟨#[]⟩⟩) (by kernel_rfl) (by decide) ?_
  refine each_one (i := ⟨3, 6, 4, 0, ⟨#[]⟩⟩) (by kernel_rfl) (by decide) ?_
  refine each_one (i := ⟨2, 5, 6, 5, ⟨#[]⟩⟩) (by kernel_rfl) (by decide) ?_
  refine each_one (i := ⟨4, 4, 4, 0, ⟨#[]⟩⟩) (by kernel_rfl) (by decide) ?_
  refine each_one (i := ⟨5, 4, -3, 0, ⟨#[]⟩⟩) (by kernel_rfl) (by decide) ?_
  refine each_one (i := ⟨2, 8, 7, 2, ⟨#[]⟩⟩) (by kernel_rfl) (by decide) ?_
  refine each_one (i := ⟨2, 8, 1, 8, ⟨#[]⟩⟩) (by kernel_rfl) (by decide) ?_
  refine each_one (i := ⟨0, 9, 0, 0, ⟨#[49, 48, 49, 49, 48, 48, 48]⟩⟩) (by kernel_rfl) (by decide) ?_
  refine each_one (i := ⟨0, 10, 0, 0, ⟨#[49, 49, 48, 49, 48, 48, 49, 48, 49, 49, 48, 48, 48]⟩⟩) (by kernel_rfl) (by decide) ?_
  refine each_one (i := ⟨5, 7, 7, 0, ⟨#[]⟩⟩) (by kernel_rfl) (by decide) ?_
  refine each_one (i := ⟨3, 6, 5, 0, ⟨#[]⟩⟩) (by kernel_rfl) (by decide) ?_
  refine each_one (i := ⟨2, 6, 9, 6, ⟨#[]⟩⟩) (by kernel_rfl) (by decide) ?_
  refine each_one (i := ⟨2, 6, 10, 6, ⟨#[]⟩⟩) (by kernel_rfl) (by decide) ?_
  refine each_one (i := ⟨2, 6, 8, 6, ⟨#[]⟩⟩) (by kernel_rfl) (by decide) ?_
  refine each_one (i := ⟨2, 0, 6, 0, ⟨#[]⟩⟩) (by kernel_rfl) (by decide) ?_
  refine each_one (i := ⟨4, 5, 5, 0, ⟨#[]⟩⟩) (by kernel_rfl) (by decide) ?_
  refine each_one (i := ⟨5, 5, -6, 0, ⟨#[]⟩⟩) (by kernel_rfl) (by decide) ?_
  refine each_one (i := ⟨2, 0, 0, 3, ⟨#[]⟩⟩) (by kernel_rfl) (by decide) ?_
  refine each_one (i := ⟨0, 2, 0, 0, ⟨#[48]⟩⟩) (by kernel_rfl) (by decide) ?_
  refine each_one (i := ⟨0, 3, 0, 0, ⟨#[48]⟩⟩) (by kernel_rfl) (by decide) ?_
  refine each_one (i := ⟨0, 6, 0, 0, ⟨#[48]⟩⟩) (by kernel_rfl) (by decide) ?_
  refine each_one (i := ⟨0, 7, 0, 0, ⟨#[48]⟩⟩) (by kernel_rfl) (by decide) ?_
  refine each_one (i := ⟨0, 8, 0, 0, ⟨#[48]⟩⟩) (by kernel_rfl) (by decide) ?_
  refine each_one (i := ⟨0, 9, 0, 0, ⟨#[48]⟩⟩) (by kernel_rfl) (by decide) ?_
  refine each_one (i := ⟨0, 10, 0, 0, ⟨#[48]⟩⟩) (by kernel_rfl) (by decide) ?_
  rfl
set_option maxRecDepth 100000 in
theorem before_split : ∃ l, strings_Split.f beforeB ⟨#[59, 32]⟩ = some l ∧ l = beforeW.map bs := by
  obtain ⟨l, h1, h2, _⟩ := split_tells beforeB ⟨#[59, 32]⟩ (by decide +kernel) (by decide)
  refine ⟨l, h1, ?_⟩
  have e : bl beforeB = joinS [59, 32] beforeW := by decide +kernel
  rw [e, show bl (⟨#[59, 32]⟩ : ByteArray) = [59, 32] from rfl, split_joinS 59 [32] beforeW (by decide) (by decide +kernel)] at h2
  rw [← h2, List.map_map]
  conv => lhs; rw [← List.map_id l]
  exact List.map_congr_left fun x _ => (bs_bl x).symm
set_option maxRecDepth 100000 in
theorem before_tells (k : Nat) (hk : 4010 ≤ k) : ring_before.f k = some (ringHead, 0) := by
  have hv : OKP ringHead := okp_iff.2 ⟨by decide, by decide +kernel, vi_ringHead⟩
  obtain ⟨l, hl, e⟩ := before_split
  unfold ring_before.f code_Parse.f
  rw [if_neg (by decide +kernel), if_neg (by decide +kernel), hl, Option.bind_some, e, before_each, Option.bind_some]
  simp only []
  rw [validp_yes hk hv]
  rfl
end Go.Proofs.YtpnmmpfidiegcaaGreatDoor.Plain
end
section
namespace Go.Proofs.YtpnmmpfidiegcaaGreatDoor.Plain
open Go.Proofs.YtpnmmpfidiegcaaGreatDoor.C
open Go.RowKit Go.Proofs.YtpnmmpfidiegcaaGreatDoorW.PrintWords Go.Proofs.YtpnmmpfidiegcaaGreatDoorW.PrintLast Go.Proofs.YtpnmmpfidiegcaaGreatDoorW.PrintMore
set_option linter.unusedVariables false
set_option linter.unusedSimpArgs false
theorem spec_tells {r : List Ins} {y : ByteArray} (hr : OKP r) (hy : ValidT y) (k : Nat) (hk : 4020 ≤ k) :
    (OKP (specHead y ++ r) → spec_Spec.f k r y = some (specHead y ++ r, 0)) ∧ (¬ OKP (specHead y ++ r) → spec_Spec.f k r y = some ([], 3)) := by
  obtain ⟨k, rfl⟩ : ∃ m, k = m + 1 := ⟨k - 1, by omega⟩
  have h4 := hr.1
  have e : spec_Spec.f (k + 1) r y = (code_Valid.f k (specHead y ++ r)).bind fun t9 => (if t9 = true then (some (specHead y ++ r, 0)) else (some (([] : List Ins), 3))) := by
    unfold spec_Spec.f
    rw [validp_yes (by omega) hr, Option.bind_some, if_pos rfl, valid_yes hy, Option.bind_some, show (!true) = false from rfl, spec_Spec.j0, if_neg (by decide), Option.bind_some]
    rw [if_pos (by simp only [List.length_cons, List.length_nil]; omega), Option.bind_some]
    rfl
  constructor
  · intro h; rw [e, validp_yes (by omega) h]; rfl
  · intro h; rw [e, validp_no (by omega) h]; rfl
theorem specAll_yes {y : ByteArray} (hy : ValidT y) (k : Nat) (hk : 4020 ≤ k) : ∀ l : List (List Ins), (∀ r ∈ l, OKP r ∧ OKP (specHead y ++ r)) → specAll k y l = some (0, l.map fun r => specHead y ++ r)
  | [], _ => rfl
  | r :: l, h => by
    obtain ⟨h1, h2⟩ := h r List.mem_cons_self
    rw [specAll, (spec_tells h1 hy k hk).1 h2, Option.bind_some, if_pos rfl, specAll_yes hy k hk l (fun x hx => h x (List.mem_cons_of_mem _ hx))]
    rfl
def madeL (rs : List (List Ins)) : List (List Ins) := rs.map fun r => specHead (bs (tabL rs)) ++ r
theorem validT_tab {rs : List (List Ins)} (h : GoodL rs) : ValidT (bs (tabL rs)) := by
  refine ⟨by rw [bs_size, tabL_length]; have := h.2; omega, ?_⟩
  rw [bl_bs]
  refine isT_lst _ fun s hs => ?_
  obtain ⟨e, he, rfl⟩ := List.mem_map.1 hs
  exact isT_codeL (okp_nice (h.1 e he))
def behind (l : List (List Ins)) : List (List Ins) := l.map fun p => ringHead ++ p
def Fine (l : List (List Ins)) : Prop := GoodL (behind l) ∧ GoodL (madeL (behind l))
theorem togMid_yes {rs : List (List Ins)} (hl : rs.length ≤ 1000) (h1 : GoodL rs) (h2 : GoodL (madeL rs)) (k : Nat) (hk : 6000 ≤ k) : togMid k rs = some (madeL rs, 0) := by
  unfold togMid
  rw [ringList_yes hl h1 k hk, Option.bind_some]
  simp only [if_true]
  rw [specAll_yes (validT_tab h1) k (by omega) rs (fun r hr => ⟨h1.1 r hr, h2.1 _ (List.mem_map.2 ⟨r, hr, rfl⟩)⟩), Option.bind_some]
  unfold togEnd
  have hm : (madeL rs).length ≤ 1000 := by unfold madeL; rw [List.length_map]; exact hl
  simp only [if_true]
  rw [show (rs.map fun r => specHead (bs (tabL rs)) ++ r) = madeL rs from rfl, ringList_yes hm h2 k hk]
  rfl
theorem validAll_yes (k : Nat) (hk : 4010 ≤ k) : ∀ l : List (List Ins), (∀ p ∈ l, OKP p) → validAll k l = some true
  | [], _ => rfl
  | p :: l, h => by rw [validAll, validp_yes hk (h p List.mem_cons_self), Option.bind_some, if_pos rfl, validAll_yes k hk l fun x hx => h x (List.mem_cons_of_mem _ hx)]
theorem together_yes {l : List (List Ins)} (h : ∀ p ∈ l, OKP p) (h1 : 1 ≤ l.length) (h2 : l.length ≤ 40) (hf : Fine l) (k : Nat) (hk : 6000 ≤ k) : ring_Together.f k l = some (madeL (behind l), 0) := by
  unfold ring_Together.f
  rw [validAll_yes k (by omega) l h, Option.bind_some, if_pos rfl, if_neg (by omega), if_neg (by omega), before_tells k (by omega), Option.bind_some, if_pos ⟨by decide, by decide, fun p hp => by have := (h p hp).1; omega⟩]
  exact togMid_yes (by unfold behind; rw [List.length_map]; omega) hf.1 hf.2 k hk
end Go.Proofs.YtpnmmpfidiegcaaGreatDoor.Plain
end
