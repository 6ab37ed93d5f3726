/- Texts of this claim, together: what the functions return, and what they say in plain words. -/
import Derived.Test.YtpnmmpfidiegcaaGreatDoorUN
section
namespace Go.Proofs.YtpnmmpfidiegcaaGreatDoor.C
open Go.RowKit Go.Proofs.YtpnmmpfidiegcaaGreatDoorW.PrintWords Go.Proofs.YtpnmmpfidiegcaaGreatDoorW.PrintLast Go.Proofs.YtpnmmpfidiegcaaGreatDoorW.PrintMore
set_option linter.unusedVariables false
set_option linter.unusedSimpArgs false
def wordNames : List ByteArray := [(⟨#[115, 101, 116]⟩ : ByteArray), (⟨#[109, 111, 118, 101]⟩ : ByteArray), (⟨#[99, 111, 110, 115]⟩ : ByteArray), (⟨#[104, 101, 97, 100]⟩ : ByteArray), (⟨#[116, 97, 105, 108]⟩ : ByteArray), (⟨#[106, 117, 109, 112]⟩ : ByteArray)]
def zI : S52 := ⟨0, 0, 0, 0, ⟨#[]⟩⟩
def instrAt (l : List ByteArray) (op : Int) : Option (S52 × Bool) :=
  if op = 0 then (code_integer.f (rdOf ByteArray.empty l 1)).bind fun r => some (⟨0, r.1, 0, 0, rdOf ByteArray.empty l 2⟩, r.2 && ((l.length : Int) == 3))
  else (eachInt (l.drop 1) []).bind fun q => match q with
    | none => some (zI, false)
    | some m => if op = 2 then (if m.length = 3 then some (⟨op, rd m 0, rd m 1, rd m 2, ⟨#[]⟩⟩, true) else some (zI, false)) else if m.length = 2 then some (⟨op, rd m 0, rd m 1, 0, ⟨#[]⟩⟩, true) else some (zI, false)
def instrGo (l : List ByteArray) : List ByteArray → Int → Option (S52 × Bool)
  | [], _ => some (zI, false)
  | nm :: ns, op => if (rdOf ByteArray.empty l 0).toList = nm.toList then instrAt l op else instrGo l ns (op + 1)
def code_instr.f (s : ByteArray) : Option (S52 × Bool) :=
  (strings_Split.f s ⟨#[32]⟩).bind fun l => if l.length < 3 then some (zI, false) else instrGo l wordNames 0
theorem put5 {W : World} {g : Nat} {v0 v1 v2 v3 v4 : Value} (h : W.heap[g]? = some (.cells #[v0, v1, v2, v3, v4] 52 (0, 0))) (a0 a1 a2 a3 a4 : Value) :
    (((((W.setCell ⟨g, 0, none⟩ a0).setCell ⟨g, 1, none⟩ a1).setCell ⟨g, 2, none⟩ a2).setCell ⟨g, 3, none⟩ a3).setCell ⟨g, 4, none⟩ a4).heap[g]? = some (.cells #[a0, a1, a2, a3, a4] 52 (0, 0)) :=
  blk_set (blk_set (blk_set (blk_set (blk_set h 0 a0) 1 a1) 2 a2) 3 a3) 4 a4
theorem drew_cell (W : World) (p : Addr) : W.drew.cell? p = W.cell? p := rfl
theorem far5 {W : World} {g g3 : Nat} {cs : Array Value} {t : TypeId} (hk : W.heap[g3]? = some (.cells cs t (0, 0))) (hne : g3 ≠ g) (a0 a1 a2 a3 a4 : Value) (j : Nat) {v : Value} (h : W.cell? ⟨g3, j, none⟩ = some v) :
    (((((W.setCell ⟨g, 0, none⟩ a0).setCell ⟨g, 1, none⟩ a1).setCell ⟨g, 2, none⟩ a2).setCell ⟨g, 3, none⟩ a3).setCell ⟨g, 4, none⟩ a4).drew.cell? ⟨g3, j, none⟩ = some v := by
  have b : (((((W.setCell ⟨g, 0, none⟩ a0).setCell ⟨g, 1, none⟩ a1).setCell ⟨g, 2, none⟩ a2).setCell ⟨g, 3, none⟩ a3).setCell ⟨g, 4, none⟩ a4).heap[g3]? = some (.cells cs t (0, 0)) :=
    blk_far (blk_far (blk_far (blk_far (blk_far hk hne a0) hne a1) hne a2) hne a3) hne a4
  rw [drew_cell, Lib.cell_of_heap b j, ← Lib.cell_of_heap hk j]
  exact h
theorem put5_below {w W : World} {g B : Nat} (hB : B ≤ g) (h : Below B w W) (a0 a1 a2 a3 a4 : Value) :
    Below B w (((((W.setCell ⟨g, 0, none⟩ a0).setCell ⟨g, 1, none⟩ a1).setCell ⟨g, 2, none⟩ a2).setCell ⟨g, 3, none⟩ a3).setCell ⟨g, 4, none⟩ a4) :=
  ((((h.setCell (p := ⟨g, 0, none⟩) hB a0).setCell (p := ⟨g, 1, none⟩) hB a1).setCell (p := ⟨g, 2, none⟩) hB a2).setCell (p := ⟨g, 3, none⟩) hB a3).setCell (p := ⟨g, 4, none⟩) hB a4
set_option maxHeartbeats 4000000 in
set_option maxRecDepth 100000 in
theorem code_instr.calls (s : ByteArray) (x : S52) (ok : Bool) (w : World) (hL : LaidW w) (h : code_instr.f s = some (x, ok)) :
    Calls Tryz.prog 41 #[.string s] w fun e w' => e = .returned (.tuple #[.agg #[.int .i64 x.f0, .int .i64 x.f1, .int .i64 x.f2, .int .i64 x.f3, .string x.f4], .bool ok]) ∧ Below w.heap.size w w' := by
  unfold code_instr.f at h
  obtain ⟨l, hl, h⟩ := Option.bind_eq_some_iff.1 h
  have HLW := Aside0.mk hL
  have HSP := Aside0.mk hl
  clear hL hl
  by_cases h3 : l.length < 3
  · rw [if_pos h3] at h
    simp only [Option.some.injEq, Prod.mk.injEq] at h
    obtain ⟨rfl, rfl⟩ := h
    have t1 : decide ((l.length : Int) < 3) = true := decide_eq_true (by omega)
    have t2 : decide (l.length < 3) = true := decide_eq_true h3
    clear h3
    go_enter Tryz.func41, Tryz.ntmps41
    go_wp2_with fail
    refine (strings_Split.calls s _ l _ (HLW.out.alloc _) HSP.out).mono ?_
    rintro e w1 ⟨v1, rfl, hr1, hb1⟩
    obtain ⟨A1, cap1, rfl, hc1, hC1⟩ := Kd.R_reads hr1
    have HZ1 := Aside0.mk ((hb1.block _ (by simp)).trans (heap_alloc_new w (.cells #[.int .i64 0, .int .i64 0, .int .i64 0, .int .i64 0, .string ⟨#[]⟩] 52)))
    have HB1 := Aside0.mk (below_step (below_alloc (Below.refl w.heap.size w) _) hb1)
    clear hr1 hb1 hC1 hc1
    have z0 : w1.cell? ⟨w.heap.size, 0, none⟩ = some (.int .i64 0) := by rw [Lib.cell_of_heap HZ1.out]; rfl
    have z1 : w1.cell? ⟨w.heap.size, 1, none⟩ = some (.int .i64 0) := by rw [Lib.cell_of_heap HZ1.out]; rfl
    have z2 : w1.cell? ⟨w.heap.size, 2, none⟩ = some (.int .i64 0) := by rw [Lib.cell_of_heap HZ1.out]; rfl
    have z3 : w1.cell? ⟨w.heap.size, 3, none⟩ = some (.int .i64 0) := by rw [Lib.cell_of_heap HZ1.out]; rfl
    have z4 : w1.cell? ⟨w.heap.size, 4, none⟩ = some (.string ⟨#[]⟩) := by rw [Lib.cell_of_heap HZ1.out]; rfl
    have f0 := Lib.frozen_of_heap HZ1.out 0
    have f1 := Lib.frozen_of_heap HZ1.out 1
    have f2 := Lib.frozen_of_heap HZ1.out 2
    have f3 := Lib.frozen_of_heap HZ1.out 3
    have f4 := Lib.frozen_of_heap HZ1.out 4
    go_wp2
    have b5 := put5 HZ1.out (.int .i64 0) (.int .i64 0) (.int .i64 0) (.int .i64 0) (.string ⟨#[]⟩)
    have d0 := (Lib.cell_of_heap b5 0).trans rfl
    have d1 := (Lib.cell_of_heap b5 1).trans rfl
    have d2 := (Lib.cell_of_heap b5 2).trans rfl
    have d3 := (Lib.cell_of_heap b5 3).trans rfl
    have d4 := (Lib.cell_of_heap b5 4).trans rfl
    exact bodyPost_ret (v := .tuple #[.agg #[.int .i64 0, .int .i64 0, .int .i64 0, .int .i64 0, .string ⟨#[]⟩], .bool false]) (by simp [results, Tryz.results41, go_sem, d0, d1, d2, d3, d4]) rfl ⟨rfl, put5_below (Nat.le_refl _) HB1.out _ _ _ _ _⟩
  · rw [if_neg h3] at h
    have HG : Aside0 (instrGo l (wordNames.drop 0) ((0 : Nat) : Int) = some (x, ok)) := ⟨h⟩
    have t1 : decide ((l.length : Int) < 3) = false := decide_eq_false (by omega)
    have t2 : decide (l.length < 3) = false := decide_eq_false h3
    have hl3 : 3 ≤ l.length := by omega
    have hb0 : decide ((0 : Int) < (l.length : Int)) = true := decide_eq_true (by omega)
    have hb1' : decide ((1 : Int) < (l.length : Int)) = true := decide_eq_true (by omega)
    have hb2' : decide ((2 : Int) < (l.length : Int)) = true := decide_eq_true (by omega)
    clear h h3
    go_enter Tryz.func41, Tryz.ntmps41
    go_wp2_with fail
    refine (strings_Split.calls s _ l _ (HLW.out.alloc _) HSP.out).mono ?_
    rintro e w1 ⟨v1, rfl, hr1, hb1⟩
    obtain ⟨A1, cap1, rfl, hc1, hC1⟩ := Kd.R_reads hr1
    have HZ1 := Aside0.mk ((hb1.block _ (by simp)).trans (heap_alloc_new w (.cells #[.int .i64 0, .int .i64 0, .int .i64 0, .int .i64 0, .string ⟨#[]⟩] 52)))
    have HB1 := Aside0.mk (below_step (below_alloc (Below.refl w.heap.size w) _) hb1)
    have HC1 := Aside0.mk hC1
    have HCC := Aside0.mk hc1
    clear hr1 hb1 hC1 hc1 HSP
    go_wp2_with fail
    refine (code_names.calls wordNames _ rfl).mono ?_
    rintro e w2 ⟨v2, rfl, hr2, hb2⟩
    obtain ⟨A2, c2, rfl, hc2, hC2⟩ := Kd.R_reads hr2
    have HZ2 := Aside0.mk ((hb2.block _ (Array.getElem?_eq_some_iff.1 HZ1.out).1).trans HZ1.out)
    have HB2 := Aside0.mk (below_step HB1.out hb2)
    have HC12 := Aside0.mk (Kd.C_below HC1.out hb2)
    have HC2 := Aside0.mk hC2
    clear hr2 hb2 hC2 hc2
    go_wp2
    obtain ⟨ad, eA, hx0⟩ := Kd.at_string HC12.out 0 (by omega) (by omega)
    subst eA
    obtain ⟨ad', e1, hx1⟩ := Kd.at_string HC12.out 1 (by omega) (by omega)
    obtain rfl := Option.some.inj e1
    obtain ⟨ad', e2, hx2⟩ := Kd.at_string HC12.out 2 (by omega) (by omega)
    obtain rfl := Option.some.inj e2
    clear e1 e2
    rw [show ad.add ((0 : Int).toNat) = ad from rfl] at hx0
    rw [show ad.add ((1 : Int).toNat) = ⟨ad.block, ad.off + 1, none⟩ from rfl] at hx1
    rw [show ad.add ((2 : Int).toNat) = ⟨ad.block, ad.off + 2, none⟩ from rfl] at hx2
    go_loopg [19] 6 (fun kq v19 wr => ∃ i : Nat, v19 = .int .i64 i ∧ Aside0 (i ≤ 6 ∧ kq + i = 6) ∧ Aside0 (instrGo l (wordNames.drop i) i = some (x, ok)) ∧ wr = w2)
    case atStart => exact ⟨0, rfl, ⟨by omega, rfl⟩, HG, rfl⟩
    case round =>
      clear HG
      obtain ⟨i, rfl, HI, HA, rfl⟩ := hrel
      have H := HA.out
      clear HA
      by_cases hlt : i < 6
      · rw [drop_row wordNames i (by rw [show wordNames.length = 6 from rfl]; exact hlt), instrGo] at H
        cases gk with
        | zero => exact absurd HI.out.2 (by omega)
        | succ k2 =>
        obtain ⟨ad2, eA2, hy⟩ := Kd.at_string HC2.out (i : Int) (by omega) (by rw [show wordNames.length = 6 from rfl]; omega)
        subst eA2
        rw [Int.toNat_natCast] at hy
        have b1 : decide ((i : Int) < ((wordNames.length : Nat) : Int)) = true := decide_eq_true (by rw [show wordNames.length = 6 from rfl]; omega)
        have b2 : decide (i < wordNames.length) = true := decide_eq_true (by rw [show wordNames.length = 6 from rfl]; omega)
        obtain ⟨s0, hs0⟩ : ∃ s0, s0 = rdOf ByteArray.empty l 0 := ⟨_, rfl⟩
        obtain ⟨nm, hnm⟩ : ∃ nm, nm = rdOf ByteArray.empty wordNames (i : Int) := ⟨_, rfl⟩
        rw [← hs0] at hx0 H
        rw [← hnm] at hy H
        clear hs0 hnm
        by_cases heq : s0.toList = nm.toList
        · rw [if_pos heq] at H
          have q0 : (s0.toList == nm.toList) = true := beq_iff_eq.2 heq
          have q1 : (s0.toList != nm.toList) = false := by simp [heq]
          by_cases hi0 : i = 0
          · subst hi0
            rw [show ad2.add 0 = ad2 from rfl] at hy
            rw [instrAt, if_pos (by rfl)] at H
            obtain ⟨⟨n, o1⟩, hn, H⟩ := Option.bind_eq_some_iff.1 H
            simp only [Option.some.injEq, Prod.mk.injEq] at H
            obtain ⟨ex, eo⟩ := H
            have HV := Aside0.mk hn
            have HEX := Aside0.mk ex
            have HEO := Aside0.mk eo
            obtain ⟨s1, hs1⟩ : ∃ s1, s1 = rdOf ByteArray.empty l 1 := ⟨_, rfl⟩
            obtain ⟨s2, hs2⟩ : ∃ s2, s2 = rdOf ByteArray.empty l 2 := ⟨_, rfl⟩
            rw [← hs1] at hx1 HV
            rw [← hs2] at hx2 HEX
            clear hs1 hs2 hn ex eo heq
            go_wp2_with fail
            refine (code_integer.calls s1 n o1 _ (HLW.out.below HB2.out) HV.out).mono ?_
            rintro e w3 ⟨rfl, hb3⟩
            have hx23 := (hb3.cell (World.block_lt_of_cell? _ _ hx2)).trans hx2
            have HZ3 := Aside0.mk ((hb3.block _ (Array.getElem?_eq_some_iff.1 HZ2.out).1).trans HZ2.out)
            have HB3 := Aside0.mk (below_step HB2.out hb3)
            clear hb3 hx0 hx1 hx2 hy
            have z0 : w3.cell? ⟨w.heap.size, 0, none⟩ = some (.int .i64 0) := by rw [Lib.cell_of_heap HZ3.out]; rfl
            have z1 : w3.cell? ⟨w.heap.size, 1, none⟩ = some (.int .i64 0) := by rw [Lib.cell_of_heap HZ3.out]; rfl
            have z2 : w3.cell? ⟨w.heap.size, 2, none⟩ = some (.int .i64 0) := by rw [Lib.cell_of_heap HZ3.out]; rfl
            have z3 : w3.cell? ⟨w.heap.size, 3, none⟩ = some (.int .i64 0) := by rw [Lib.cell_of_heap HZ3.out]; rfl
            have z4 : w3.cell? ⟨w.heap.size, 4, none⟩ = some (.string ⟨#[]⟩) := by rw [Lib.cell_of_heap HZ3.out]; rfl
            have f0 := Lib.frozen_of_heap HZ3.out 0
            have f1 := Lib.frozen_of_heap HZ3.out 1
            have f2 := Lib.frozen_of_heap HZ3.out 2
            have f3 := Lib.frozen_of_heap HZ3.out 3
            have f4 := Lib.frozen_of_heap HZ3.out 4
            cases o1 with
            | false =>
              have ex := HEX.out
              have eo := HEO.out
              subst ex eo
              go_wp2
              have b5 := put5 HZ3.out (.int .i64 0) (.int .i64 n) (.int .i64 0) (.int .i64 0) (.string s2)
              have d0 := (Lib.cell_of_heap b5 0).trans rfl
              have d1 := (Lib.cell_of_heap b5 1).trans rfl
              have d2 := (Lib.cell_of_heap b5 2).trans rfl
              have d3 := (Lib.cell_of_heap b5 3).trans rfl
              have d4 := (Lib.cell_of_heap b5 4).trans rfl
              exact bodyPost_ret (v := .tuple #[.agg #[.int .i64 0, .int .i64 n, .int .i64 0, .int .i64 0, .string s2], .bool false]) (by simp [results, Tryz.results41, go_sem, d0, d1, d2, d3, d4]) rfl ⟨rfl, put5_below (Nat.le_refl _) HB3.out _ _ _ _ _⟩
            | true =>
              have ex := HEX.out
              have eo := HEO.out
              subst ex eo
              go_wp2
              have b5 := put5 HZ3.out (.int .i64 0) (.int .i64 n) (.int .i64 0) (.int .i64 0) (.string s2)
              have d0 := (Lib.cell_of_heap b5 0).trans rfl
              have d1 := (Lib.cell_of_heap b5 1).trans rfl
              have d2 := (Lib.cell_of_heap b5 2).trans rfl
              have d3 := (Lib.cell_of_heap b5 3).trans rfl
              have d4 := (Lib.cell_of_heap b5 4).trans rfl
              exact bodyPost_ret (v := .tuple #[.agg #[.int .i64 0, .int .i64 n, .int .i64 0, .int .i64 0, .string s2], .bool ((l.length : Int) == 3)]) (by simp [results, Tryz.results41, go_sem, d0, d1, d2, d3, d4]) rfl ⟨rfl, put5_below (Nat.le_refl _) HB3.out _ _ _ _ _⟩
          · have hne0 : ((i : Int) == 0) = false := beq_eq_false_iff_ne.2 (by omega)
            have hne0n : (i == 0) = false := beq_eq_false_iff_ne.2 hi0
            rw [instrAt, if_neg (by omega)] at H
            obtain ⟨q, hq, H⟩ := Option.bind_eq_some_iff.1 H
            have HQ := Aside0.mk hq
            have HH := Aside0.mk H
            have bc1 : decide (1 ≤ l.length) = true := decide_eq_true (by omega)
            have bc2 : decide ((1 : Int) ≤ (l.length : Int)) = true := decide_eq_true (by omega)
            have bc3 : decide ((l.length : Int) ≤ (cap1 : Int)) = true := decide_eq_true (by have := HCC.out; omega)
            have bc4 : (cap1 = 1) = False := eq_false (by have := HCC.out; omega)
            have hCD := Kd.C_drop (m := 1) (c := cap1) HC12.out (by omega) HCC.out
            rw [if_neg (by have := HCC.out; omega)] at hCD
            have hE := eachInt_calls (some ⟨ad.block, ad.off + 1, none⟩) (cap1 - 1) (l.drop 1) q wr (HLW.out.below HB2.out) hCD (by rw [List.length_drop]; have := HCC.out; omega) HQ.out
            rw [List.length_drop] at hE
            have HE := Aside0.mk hE
            clear hq H heq hCD hE
            go_wp2_with fail
            refine HE.out.mono ?_
            rintro e w3 ⟨v3, rfl, hr3, hb3⟩
            have HZ3 := Aside0.mk ((hb3.block _ (Array.getElem?_eq_some_iff.1 HZ2.out).1).trans HZ2.out)
            have HB3 := Aside0.mk (below_step HB2.out hb3)
            clear hb3 hx0 hx1 hx2 hy HE
            have z0 : w3.cell? ⟨w.heap.size, 0, none⟩ = some (.int .i64 0) := by rw [Lib.cell_of_heap HZ3.out]; rfl
            have z1 : w3.cell? ⟨w.heap.size, 1, none⟩ = some (.int .i64 0) := by rw [Lib.cell_of_heap HZ3.out]; rfl
            have z2 : w3.cell? ⟨w.heap.size, 2, none⟩ = some (.int .i64 0) := by rw [Lib.cell_of_heap HZ3.out]; rfl
            have z3 : w3.cell? ⟨w.heap.size, 3, none⟩ = some (.int .i64 0) := by rw [Lib.cell_of_heap HZ3.out]; rfl
            have z4 : w3.cell? ⟨w.heap.size, 4, none⟩ = some (.string ⟨#[]⟩) := by rw [Lib.cell_of_heap HZ3.out]; rfl
            have f0 := Lib.frozen_of_heap HZ3.out 0
            have f1 := Lib.frozen_of_heap HZ3.out 1
            have f2 := Lib.frozen_of_heap HZ3.out 2
            have f3 := Lib.frozen_of_heap HZ3.out 3
            have f4 := Lib.frozen_of_heap HZ3.out 4
            cases q with
            | none =>
              have hh := HH.out
              simp only [Option.some.injEq, Prod.mk.injEq] at hh
              obtain ⟨ex, eo⟩ := hh
              subst ex eo
              obtain ⟨A3, c3, rfl, hc3, hC3⟩ := Kd.R_reads hr3
              clear hr3 hc3 hC3
              by_cases hi2 : i = 2
              · subst hi2
                go_wp2
                have b5 := put5 HZ3.out (.int .i64 0) (.int .i64 0) (.int .i64 0) (.int .i64 0) (.string ⟨#[]⟩)
                have d0 := (Lib.cell_of_heap b5 0).trans rfl
                have d1 := (Lib.cell_of_heap b5 1).trans rfl
                have d2 := (Lib.cell_of_heap b5 2).trans rfl
                have d3 := (Lib.cell_of_heap b5 3).trans rfl
                have d4 := (Lib.cell_of_heap b5 4).trans rfl
                exact bodyPost_ret (v := .tuple #[.agg #[.int .i64 0, .int .i64 0, .int .i64 0, .int .i64 0, .string ⟨#[]⟩], .bool false]) (by simp [results, Tryz.results41, go_sem, d0, d1, d2, d3, d4]) rfl ⟨rfl, put5_below (Nat.le_refl _) HB3.out _ _ _ _ _⟩
              · have hne2 : ((i : Int) == 2) = false := beq_eq_false_iff_ne.2 (by omega)
                have hne2n : (i == 2) = false := beq_eq_false_iff_ne.2 hi2
                go_wp2
                have b5 := put5 HZ3.out (.int .i64 0) (.int .i64 0) (.int .i64 0) (.int .i64 0) (.string ⟨#[]⟩)
                have d0 := (Lib.cell_of_heap b5 0).trans rfl
                have d1 := (Lib.cell_of_heap b5 1).trans rfl
                have d2 := (Lib.cell_of_heap b5 2).trans rfl
                have d3 := (Lib.cell_of_heap b5 3).trans rfl
                have d4 := (Lib.cell_of_heap b5 4).trans rfl
                exact bodyPost_ret (v := .tuple #[.agg #[.int .i64 0, .int .i64 0, .int .i64 0, .int .i64 0, .string ⟨#[]⟩], .bool false]) (by simp [results, Tryz.results41, go_sem, d0, d1, d2, d3, d4]) rfl ⟨rfl, put5_below (Nat.le_refl _) HB3.out _ _ _ _ _⟩
            | some m =>
              obtain ⟨A3, c3, rfl, hc3, hC3⟩ := Kd.R_reads hr3
              have HH2 := HH.out
              dsimp only [Option.getD_some] at hC3 HH2
              by_cases hi2 : i = 2
              · subst hi2
                rw [if_pos (by rfl)] at HH2
                have hr3' := Aside0.mk hr3
                clear hr3
                by_cases hm3 : m.length = 3
                · rw [if_pos hm3] at HH2
                  simp only [Option.some.injEq, Prod.mk.injEq] at HH2
                  obtain ⟨ex, eo⟩ := HH2
                  obtain ⟨g3, c3', e3, hg3, hlt3, cs3, hk3⟩ := Kd.R_form hr3'.out (by dsimp only [Option.getD_some]; omega)
                  injection e3 with e3A
                  subst e3A
                  have HK3 := Aside0.mk hk3
                  have HNE : Aside0 (g3 ≠ w.heap.size) := ⟨by have := (Array.getElem?_eq_some_iff.1 HZ2.out).1; omega⟩
                  have hm0 : w3.cell? ⟨g3, 0, none⟩ = some (.int .i64 (rd m 0)) := by
                    obtain ⟨ad', e', hx⟩ := Kd.at_int hC3 0 (by omega) (by omega)
                    obtain rfl := Option.some.inj e'
                    exact hx
                  have hm1 : w3.cell? ⟨g3, 1, none⟩ = some (.int .i64 (rd m 1)) := by
                    obtain ⟨ad', e', hx⟩ := Kd.at_int hC3 1 (by omega) (by omega)
                    obtain rfl := Option.some.inj e'
                    exact hx
                  have hm2 : w3.cell? ⟨g3, 2, none⟩ = some (.int .i64 (rd m 2)) := by
                    obtain ⟨ad', e', hx⟩ := Kd.at_int hC3 2 (by omega) (by omega)
                    obtain rfl := Option.some.inj e'
                    exact hx
                  have lb0 : ((m.length : Int) != 3) = false := by simp [hm3]
                  have lb1 : (m.length != 3) = false := by simp [hm3]
                  have HEX := Aside0.mk ex
                  have HEO := Aside0.mk eo
                  have HM3 := Aside0.mk hm3
                  clear HH ex eo hC3 hm3 hc3 hk3 hg3 hr3'
                  go_wp2_with fail
                  have hm3 := HM3.out
                  go_region_held3 (fun w' => w'.cell? ⟨g3, 0, none⟩ = some (.int .i64 (rd m 0)) ∧ w'.cell? ⟨g3, 1, none⟩ = some (.int .i64 (rd m 1)) ∧ w'.cell? ⟨g3, 2, none⟩ = some (.int .i64 (rd m 2)))
                    (first
                      | ((try simp only [drew_cell]); with_reducible exact ⟨hm0, hm1, hm2⟩)
                      | (refine ⟨?_, ?_, ?_⟩ <;> with_reducible first | exact far5 HK3.out HNE.out _ _ _ _ _ 0 hm0 | exact far5 HK3.out HNE.out _ _ _ _ _ 1 hm1 | exact far5 HK3.out HNE.out _ _ _ _ _ 2 hm2)
                      | go_keep)
                    (fail)
                  have ex := HEX.out
                  have eo := HEO.out
                  subst ex eo
                  go_wp2
                  have b5 := put5 HZ3.out (.int .i64 2) (.int .i64 (rd m 0)) (.int .i64 (rd m 1)) (.int .i64 (rd m 2)) (.string ⟨#[]⟩)
                  have d0 := (Lib.cell_of_heap b5 0).trans rfl
                  have d1 := (Lib.cell_of_heap b5 1).trans rfl
                  have d2 := (Lib.cell_of_heap b5 2).trans rfl
                  have d3 := (Lib.cell_of_heap b5 3).trans rfl
                  have d4 := (Lib.cell_of_heap b5 4).trans rfl
                  exact bodyPost_ret (v := .tuple #[.agg #[.int .i64 2, .int .i64 (rd m 0), .int .i64 (rd m 1), .int .i64 (rd m 2), .string ⟨#[]⟩], .bool true]) (by simp [results, Tryz.results41, go_sem, drew_cell, d0, d1, d2, d3, d4]) rfl ⟨rfl, (put5_below (Nat.le_refl _) HB3.out _ _ _ _ _).drew⟩
                · rw [if_neg hm3] at HH2
                  simp only [Option.some.injEq, Prod.mk.injEq] at HH2
                  obtain ⟨ex, eo⟩ := HH2
                  subst ex eo
                  have lb0 : ((m.length : Int) != 3) = true := bne_iff_ne.2 (by omega)
                  have lb1 : (m.length != 3) = true := bne_iff_ne.2 hm3
                  clear hc3 hC3
                  go_wp2
                  have b5 := put5 HZ3.out (.int .i64 0) (.int .i64 0) (.int .i64 0) (.int .i64 0) (.string ⟨#[]⟩)
                  have d0 := (Lib.cell_of_heap b5 0).trans rfl
                  have d1 := (Lib.cell_of_heap b5 1).trans rfl
                  have d2 := (Lib.cell_of_heap b5 2).trans rfl
                  have d3 := (Lib.cell_of_heap b5 3).trans rfl
                  have d4 := (Lib.cell_of_heap b5 4).trans rfl
                  exact bodyPost_ret (v := .tuple #[.agg #[.int .i64 0, .int .i64 0, .int .i64 0, .int .i64 0, .string ⟨#[]⟩], .bool false]) (by simp [results, Tryz.results41, go_sem, d0, d1, d2, d3, d4]) rfl ⟨rfl, put5_below (Nat.le_refl _) HB3.out _ _ _ _ _⟩
              · have hne2 : ((i : Int) == 2) = false := beq_eq_false_iff_ne.2 (by omega)
                have hne2n : (i == 2) = false := beq_eq_false_iff_ne.2 hi2
                rw [if_neg (by omega)] at HH2
                have hr3' := Aside0.mk hr3
                clear hr3
                by_cases hm3 : m.length = 2
                · rw [if_pos hm3] at HH2
                  simp only [Option.some.injEq, Prod.mk.injEq] at HH2
                  obtain ⟨ex, eo⟩ := HH2
                  obtain ⟨g3, c3', e3, hg3, hlt3, cs3, hk3⟩ := Kd.R_form hr3'.out (by dsimp only [Option.getD_some]; omega)
                  injection e3 with e3A
                  subst e3A
                  have HK3 := Aside0.mk hk3
                  have HNE : Aside0 (g3 ≠ w.heap.size) := ⟨by have := (Array.getElem?_eq_some_iff.1 HZ2.out).1; omega⟩
                  have hm0 : w3.cell? ⟨g3, 0, none⟩ = some (.int .i64 (rd m 0)) := by
                    obtain ⟨ad', e', hx⟩ := Kd.at_int hC3 0 (by omega) (by omega)
                    obtain rfl := Option.some.inj e'
                    exact hx
                  have hm1 : w3.cell? ⟨g3, 1, none⟩ = some (.int .i64 (rd m 1)) := by
                    obtain ⟨ad', e', hx⟩ := Kd.at_int hC3 1 (by omega) (by omega)
                    obtain rfl := Option.some.inj e'
                    exact hx
                  have lb0 : ((m.length : Int) != 2) = false := by simp [hm3]
                  have lb1 : (m.length != 2) = false := by simp [hm3]
                  have HEX := Aside0.mk ex
                  have HEO := Aside0.mk eo
                  have HM3 := Aside0.mk hm3
                  clear HH ex eo hC3 hm3 hc3 hk3 hg3 hr3'
                  go_wp2_with fail
                  have hm3 := HM3.out
                  go_region_held3 (fun w' => w'.cell? ⟨g3, 0, none⟩ = some (.int .i64 (rd m 0)) ∧ w'.cell? ⟨g3, 1, none⟩ = some (.int .i64 (rd m 1)))
                    (first
                      | ((try simp only [drew_cell]); with_reducible exact ⟨hm0, hm1⟩)
                      | (refine ⟨?_, ?_⟩ <;> with_reducible first | exact far5 HK3.out HNE.out _ _ _ _ _ 0 hm0 | exact far5 HK3.out HNE.out _ _ _ _ _ 1 hm1)
                      | go_keep)
                    (fail)
                  have ex := HEX.out
                  have eo := HEO.out
                  subst ex eo
                  go_wp2
                  have b5 := put5 HZ3.out (.int .i64 (i : Int)) (.int .i64 (rd m 0)) (.int .i64 (rd m 1)) (.int .i64 0) (.string ⟨#[]⟩)
                  have d0 := (Lib.cell_of_heap b5 0).trans rfl
                  have d1 := (Lib.cell_of_heap b5 1).trans rfl
                  have d2 := (Lib.cell_of_heap b5 2).trans rfl
                  have d3 := (Lib.cell_of_heap b5 3).trans rfl
                  have d4 := (Lib.cell_of_heap b5 4).trans rfl
                  exact bodyPost_ret (v := .tuple #[.agg #[.int .i64 (i : Int), .int .i64 (rd m 0), .int .i64 (rd m 1), .int .i64 0, .string ⟨#[]⟩], .bool true]) (by simp [results, Tryz.results41, go_sem, drew_cell, d0, d1, d2, d3, d4]) rfl ⟨rfl, (put5_below (Nat.le_refl _) HB3.out _ _ _ _ _).drew⟩
                · rw [if_neg hm3] at HH2
                  simp only [Option.some.injEq, Prod.mk.injEq] at HH2
                  obtain ⟨ex, eo⟩ := HH2
                  subst ex eo
                  have lb0 : ((m.length : Int) != 2) = true := bne_iff_ne.2 (by omega)
                  have lb1 : (m.length != 2) = true := bne_iff_ne.2 hm3
                  clear hc3 hC3
                  go_wp2
                  have b5 := put5 HZ3.out (.int .i64 0) (.int .i64 0) (.int .i64 0) (.int .i64 0) (.string ⟨#[]⟩)
                  have d0 := (Lib.cell_of_heap b5 0).trans rfl
                  have d1 := (Lib.cell_of_heap b5 1).trans rfl
                  have d2 := (Lib.cell_of_heap b5 2).trans rfl
                  have d3 := (Lib.cell_of_heap b5 3).trans rfl
                  have d4 := (Lib.cell_of_heap b5 4).trans rfl
                  exact bodyPost_ret (v := .tuple #[.agg #[.int .i64 0, .int .i64 0, .int .i64 0, .int .i64 0, .string ⟨#[]⟩], .bool false]) (by simp [results, Tryz.results41, go_sem, d0, d1, d2, d3, d4]) rfl ⟨rfl, put5_below (Nat.le_refl _) HB3.out _ _ _ _ _⟩
        · rw [if_neg heq] at H
          have HN : Aside0 (instrGo l (wordNames.drop (i + 1)) ((i + 1 : Nat) : Int) = some (x, ok)) := ⟨H⟩
          have q0 : (s0.toList == nm.toList) = false := beq_eq_false_iff_ne.2 heq
          have q1 : (s0.toList != nm.toList) = true := bne_iff_ne.2 heq
          clear H heq
          go_wp2
          go_roundg k2
          case measure => omega
          case rel => exact ⟨i + 1, by go_num, ⟨by have := HI.out; omega⟩, HN, rfl⟩
      · have hd : wordNames.drop i = [] := List.drop_eq_nil_of_le (by rw [show wordNames.length = 6 from rfl]; omega)
        rw [hd, instrGo] at H
        simp only [Option.some.injEq, Prod.mk.injEq] at H
        obtain ⟨ex, eo⟩ := H
        subst ex eo
        have b1 : decide ((i : Int) < ((wordNames.length : Nat) : Int)) = false := decide_eq_false (by rw [show wordNames.length = 6 from rfl]; omega)
        have b2 : decide (i < wordNames.length) = false := decide_eq_false (by rw [show wordNames.length = 6 from rfl]; omega)
        clear hlt hd
        have z0 : wr.cell? ⟨w.heap.size, 0, none⟩ = some (.int .i64 0) := by rw [Lib.cell_of_heap HZ2.out]; rfl
        have z1 : wr.cell? ⟨w.heap.size, 1, none⟩ = some (.int .i64 0) := by rw [Lib.cell_of_heap HZ2.out]; rfl
        have z2 : wr.cell? ⟨w.heap.size, 2, none⟩ = some (.int .i64 0) := by rw [Lib.cell_of_heap HZ2.out]; rfl
        have z3 : wr.cell? ⟨w.heap.size, 3, none⟩ = some (.int .i64 0) := by rw [Lib.cell_of_heap HZ2.out]; rfl
        have z4 : wr.cell? ⟨w.heap.size, 4, none⟩ = some (.string ⟨#[]⟩) := by rw [Lib.cell_of_heap HZ2.out]; rfl
        have f0 := Lib.frozen_of_heap HZ2.out 0
        have f1 := Lib.frozen_of_heap HZ2.out 1
        have f2 := Lib.frozen_of_heap HZ2.out 2
        have f3 := Lib.frozen_of_heap HZ2.out 3
        have f4 := Lib.frozen_of_heap HZ2.out 4
        go_wp2
        have b5 := put5 HZ2.out (.int .i64 0) (.int .i64 0) (.int .i64 0) (.int .i64 0) (.string ⟨#[]⟩)
        have d0 := (Lib.cell_of_heap b5 0).trans rfl
        have d1 := (Lib.cell_of_heap b5 1).trans rfl
        have d2 := (Lib.cell_of_heap b5 2).trans rfl
        have d3 := (Lib.cell_of_heap b5 3).trans rfl
        have d4 := (Lib.cell_of_heap b5 4).trans rfl
        exact bodyPost_ret (v := .tuple #[.agg #[.int .i64 0, .int .i64 0, .int .i64 0, .int .i64 0, .string ⟨#[]⟩], .bool false]) (by simp [results, Tryz.results41, go_sem, d0, d1, d2, d3, d4]) rfl ⟨rfl, put5_below (Nat.le_refl _) HB2.out _ _ _ _ _⟩
end Go.Proofs.YtpnmmpfidiegcaaGreatDoor.C
end
section
namespace Go.Proofs.YtpnmmpfidiegcaaGreatDoor.C
open Go.RowKit Go.Proofs.YtpnmmpfidiegcaaGreatDoorW.PrintWords Go.Proofs.YtpnmmpfidiegcaaGreatDoorW.PrintLast Go.Proofs.YtpnmmpfidiegcaaGreatDoorW.PrintMore
set_option linter.unusedVariables false
set_option linter.unusedSimpArgs false
def eachInstr : List ByteArray → List S52 → Option (Option (List S52))
  | [], p => some (some p)
  | s :: l, p => (code_instr.f s).bind fun r => if r.2 = true then (if p.length < 2932031007000 then eachInstr l (p ++ [r.1]) else none) else some none
set_option maxHeartbeats 2000000 in
set_option maxRecDepth 100000 in
theorem eachInstr_calls (A0 : Option Addr) (c0 : Nat) (l : List ByteArray) (q : Option (List S52)) (w : World) (hL : LaidW w) (hr0 : Kd.C Kd.string w A0 l.length l) (hc0 : l.length ≤ c0) (h : eachInstr l [] = some q) :
    Calls Tryz.prog 39 #[.slice A0 l.length c0, .func (.func 41) #[] #[]] w fun e w' => ∃ v0_ : Value, e = .returned (.tuple #[v0_, .bool q.isSome]) ∧ Kd.R k52 52 w' w.heap.size (fun _ => True) v0_ (q.getD []) ∧ Below w.heap.size w w' := by
  have HLW := Aside0.mk hL
  have HR0 := Aside0.mk hr0
  have hlm : l.length ≤ 9223372036854775807 := hr0.2.1
  have HQ : Aside0 (eachInstr (l.drop 0) [] = some q) := ⟨h⟩
  clear hr0 hL h hc0
  go_enter Tryz.func39, Tryz.ntmps39
  go_wp2
  go_loopg [6, 13] l.length (fun kq v6 v13 wr => ∃ (i : Nat) (p : List S52), v13 = .int .i64 i ∧ Aside0 (i ≤ l.length ∧ kq + i = l.length) ∧ Aside0 (eachInstr (l.drop i) p = some q) ∧ Aside0 (Kd.R k52 52 wr w.heap.size (fun _ => True) v6 p) ∧ Aside0 (Below w.heap.size w wr))
  case atStart => exact ⟨0, [], rfl, ⟨Nat.zero_le _, rfl⟩, HQ, ⟨Kd.R_nil _ _ _ _ _⟩, ⟨Below.refl _ _⟩⟩
  case round =>
    clear HQ
    obtain ⟨i, p, rfl, HI, HA, HR, HB⟩ := hrel
    have H := HA.out
    clear HA
    by_cases hlt : (i : Int) < (l.length : Int)
    · rw [drop_row l i (by omega), eachInstr] at H
      obtain ⟨⟨x, ok⟩, hn, H⟩ := Option.bind_eq_some_iff.1 H
      dsimp only at H
      have HN := Aside0.mk H
      have HV := Aside0.mk hn
      clear H hn
      cases gk with
      | zero => exact absurd HI.out.2 (by omega)
      | succ k2 =>
      obtain ⟨ad, eA, hx0⟩ := Kd.at_string HR0.out (i : Int) (by omega) hlt
      subst eA
      rw [Int.toNat_natCast] at hx0
      replace hx0 := (HB.out.cell (World.block_lt_of_cell? w _ hx0)).trans hx0
      generalize rdOf ByteArray.empty l (i : Int) = s at *
      go_wp2_with fail
      refine (code_instr.calls s x ok _ (HLW.out.below HB.out) HV.out).mono ?_
      rintro e w2 ⟨rfl, hb2⟩
      have HR2 := Aside0.mk (Kd.R_below HR.out hb2)
      have HB2 := Aside0.mk (below_step HB.out hb2)
      clear hb2 HR HB hx0
      cases ok with
      | false =>
        obtain rfl : q = none := by have := HN.out; simpa using this.symm
        clear HN
        go_wp2
        go_ret2
        exact ⟨_, rfl, Kd.R_nil _ _ _ _ _, below_alloc HB2.out _⟩
      | true =>
        by_cases hpl : p.length < 2932031007000
        · have HN3 : Aside0 (eachInstr (l.drop (i + 1)) (p ++ [x]) = some q) := ⟨by have := HN.out; simpa [hpl] using this⟩
          have HPL := Aside0.mk hpl
          clear HN hpl
          go_wp2_with (at_builtin; refine Kd.R_append k52 (w0 := w) w.heap.size rfl _ _ 28 52 (.agg #[(.int .i64 0), (.int .i64 0), (.int .i64 0), (.int .i64 0), (.string ⟨#[]⟩)]) 48 rfl Tryz.underlying28 info52 rfl (by decide) (by omega) _ p x [.int .i64 x.f0, .int .i64 x.f1, .int .i64 x.f2, .int .i64 x.f3, .string x.f4] (fun _ => True) (fun _ => False) rfl (by first | (go_simp; done) | (go_simp; rfl)) (k52_mkM _ _ _ _) (fun _ hk => hk.elim) ?aF ?aO ?aB ?aS ?aL ?_)
          case aF => exact fun _ _ => trivial
          case aO => exact Kd.R_alloc HR2.out _
          case aB => exact below_alloc HB2.out _
          case aS => exact (below_alloc HB2.out _).size
          case aL => have := HPL.out; omega
          intro v6 w6 ho6 hb6 hg6 hat6
          have HO6 := Aside0.mk ho6
          have HB6 := Aside0.mk hb6
          clear ho6 hb6 hg6 hat6 HPL HR2 HB2
          go_wp2
          go_roundg k2
          case measure => omega
          case rel => exact ⟨i + 1, _, by go_num, ⟨by have := HI.out; omega⟩, HN3, HO6, HB6⟩
        · exact absurd HN.out (by simp [hpl])
    · have hd : l.drop i = [] := List.drop_eq_nil_of_le (by omega)
      rw [hd, eachInstr] at H
      obtain rfl := Option.some.inj H
      clear H
      have t1 : decide ((i : Int) < (l.length : Int)) = false := decide_eq_false hlt
      have t2 : decide (i < l.length) = false := decide_eq_false (by omega)
      clear hlt hd
      go_wp2
      go_ret2
      exact ⟨_, rfl, HR.out, HB.out⟩
def code_Parse.f (k : Nat) (a0 : ByteArray) : Option (List S52 × Int) :=
  if 4000000 < a0.size then some ([], 5) else if a0.toList = ([] : List UInt8) then some ([], 0) else (strings_Split.f a0 ⟨#[59, 32]⟩).bind fun l => (eachInstr l []).bind fun q => match q with
    | none => some ([], 5)
    | some p => (code_Valid.f k p).bind fun v => if v = true then some (p, 0) else some ([], 5)
set_option maxHeartbeats 2000000 in
set_option maxRecDepth 100000 in
theorem code_Parse.calls (k : Nat) (a0 : ByteArray) (r1 : List S52) (r2 : Int) (w : World) (hL : LaidW w) (h : code_Parse.f k a0 = some (r1, r2)) :
    Calls Tryz.prog 33 #[.string a0] w fun e w' => ∃ v0_ : Value, e = .returned (.tuple #[v0_, .int .i64 r2]) ∧ Kd.R k52 52 w' w.heap.size (fun _ => True) v0_ r1 ∧ Below w.heap.size w w' := by
  unfold code_Parse.f at h
  have HLW := Aside0.mk hL
  clear hL
  by_cases h4 : 4000000 < a0.size
  · rw [if_pos h4] at h
    simp only [Option.some.injEq, Prod.mk.injEq] at h
    obtain ⟨e1, e2⟩ := h
    subst e1 e2
    have t1 : decide ((4000000 : Int) < (a0.size : Int)) = true := decide_eq_true (by omega)
    have t2 : decide (4000000 < a0.size) = true := decide_eq_true h4
    clear h4
    go_enter Tryz.func33, Tryz.ntmps33
    go_wp2
    go_ret2
    exact ⟨_, rfl, Kd.R_nil _ _ _ _ _, Below.refl _ _⟩
  rw [if_neg h4] at h
  have t1 : decide ((4000000 : Int) < (a0.size : Int)) = false := decide_eq_false (by omega)
  have t2 : decide (4000000 < a0.size) = false := decide_eq_false h4
  clear h4
  by_cases h0 : a0.toList = ([] : List UInt8)
  · rw [if_pos h0] at h
    simp only [Option.some.injEq, Prod.mk.injEq] at h
    obtain ⟨e1, e2⟩ := h
    subst e1 e2
    have u1 : (a0.toList == ([] : List UInt8)) = true := beq_iff_eq.2 h0
    go_enter Tryz.func33, Tryz.ntmps33
    go_wp2
    go_ret2
    exact ⟨_, rfl, Kd.R_nil _ _ _ _ _, Below.refl _ _⟩
  rw [if_neg h0] at h
  have u1 : (a0.toList == ([] : List UInt8)) = false := beq_eq_false_iff_ne.2 h0
  clear h0
  obtain ⟨l, hl, h⟩ := Option.bind_eq_some_iff.1 h
  obtain ⟨q, hq, h⟩ := Option.bind_eq_some_iff.1 h
  have HSP := Aside0.mk hl
  have HQ := Aside0.mk hq
  have HH := Aside0.mk h
  clear hl hq h
  go_enter Tryz.func33, Tryz.ntmps33
  go_wp2_with fail
  refine (strings_Split.calls a0 _ l _ HLW.out HSP.out).mono ?_
  rintro e w1 ⟨v1, rfl, hr1, hb1⟩
  obtain ⟨A1, cap1, rfl, hc1, hC1⟩ := Kd.R_reads hr1
  have HB1 := Aside0.mk hb1
  have HE := Aside0.mk (eachInstr_calls A1 cap1 l q w1 (HLW.out.below hb1) hC1 hc1 HQ.out)
  clear hr1 hb1 hC1 hc1
  go_wp2_with fail
  refine HE.out.mono ?_
  rintro e w2 ⟨v2, rfl, hr2, hb2⟩
  have HB2 := Aside0.mk (below_step HB1.out hb2)
  have HR2 := Aside0.mk (Kd.R_lower hr2 HB1.out.size)
  clear hr2 hb2
  cases q with
  | none =>
    have hh := HH.out
    simp only [Option.some.injEq, Prod.mk.injEq] at hh
    obtain ⟨e1, e2⟩ := hh
    subst e1 e2
    go_wp2
    go_ret2
    exact ⟨_, rfl, Kd.R_nil _ _ _ _ _, HB2.out⟩
  | some p =>
    have hh := HH.out
    dsimp only at hh
    obtain ⟨v, hv, hh⟩ := Option.bind_eq_some_iff.1 hh
    have HV := Aside0.mk hv
    obtain ⟨A2, cap2, rfl, hc2, hC2⟩ := Kd.R_reads HR2.out
    have HC2 := Aside0.mk hC2
    have HCC := Aside0.mk hc2
    clear hv hC2 hc2
    go_wp2_with fail
    refine (code_Valid.calls k A2 cap2 p v w2 HC2.out HCC.out HV.out).mono ?_
    rintro e w3 ⟨rfl, hb3⟩
    have HB3 := Aside0.mk (below_step HB2.out hb3)
    have HR3 := Aside0.mk (Kd.R_below HR2.out hb3)
    clear hb3
    cases v with
    | false =>
      simp only [Bool.false_eq_true, if_false, Option.some.injEq, Prod.mk.injEq] at hh
      obtain ⟨e1, e2⟩ := hh
      subst e1 e2
      go_wp2
      go_ret2
      exact ⟨_, rfl, Kd.R_nil _ _ _ _ _, HB3.out⟩
    | true =>
      simp only [if_true, Option.some.injEq, Prod.mk.injEq] at hh
      obtain ⟨e1, e2⟩ := hh
      subst e1 e2
      go_wp2
      go_ret2
      exact ⟨_, rfl, HR3.out, HB3.out⟩
end Go.Proofs.YtpnmmpfidiegcaaGreatDoor.C
end
section
namespace Go.Proofs.YtpnmmpfidiegcaaGreatDoor.C
open Go.RowKit Go.Proofs.YtpnmmpfidiegcaaGreatDoorW.PrintWords Go.Proofs.YtpnmmpfidiegcaaGreatDoorW.PrintLast Go.Proofs.YtpnmmpfidiegcaaGreatDoorW.PrintMore
set_option linter.unusedVariables false
set_option linter.unusedSimpArgs false
def beforeB : ByteArray := ⟨[104, 101, 97, 100, 32, 50, 32, 48, 59, 32, 116, 97, 105, 108, 32, 51, 32, 48, 59, 32, 115, 101, 116, 32, 48, 32, 48, 59, 32, 109, 111, 118, 101, 32, 52, 32, 50, 59, 32, 115, 101, 116, 32, 55, 32, 49, 48, 48, 59, 32, 106, 117, 109, 112, 32, 55, 32, 52, 59, 32, 104, 101, 97, 100, 32, 54, 32, 52, 59, 32, 99, 111, 110, 115, 32, 53, 32, 54, 32, 53, 59, 32, 116, 97, 105, 108, 32, 52, 32, 52, 59, 32, 106, 117, 109, 112, 32, 52, 32, 45, 51, 59, 32, 99, 111, 110, 115, 32, 56, 32, 55, 32, 50, 59, 32, 99, 111, 110, 115, 32, 56, 32, 49, 32, 56, 59, 32, 115, 101, 116, 32, 57, 32, 49, 48, 49, 49, 48, 48, 48, 59, 32, 115, 101, 116, 32, 49, 48, 32, 49, 49, 48, 49, 48, 48, 49, 48, 49, 49, 48, 48, 48, 59, 32, 106, 117, 109, 112, 32, 55, 32, 55, 59, 32, 104, 101, 97, 100, 32, 54, 32, 53, 59, 32, 99, 111, 110, 115, 32, 54, 32, 57, 32, 54, 59, 32, 99, 111, 110, 115, 32, 54, 32, 49, 48, 32, 54, 59, 32, 99, 111, 110, 115, 32, 54, 32, 56, 32, 54, 59, 32, 99, 111, 110, 115, 32, 48, 32, 54, 32, 48, 59, 32, 116, 97, 105, 108, 32, 53, 32, 53, 59, 32, 106, 117, 109, 112, 32, 53, 32, 45, 54, 59, 32, 99, 111, 110, 115, 32, 48, 32, 48, 32, 51, 59, 32, 115, 101, 116, 32, 50, 32, 48, 59, 32, 115, 101, 116, 32, 51, 32, 48, 59, 32, 115, 101, 116, 32, 54, 32, 48, 59, 32, 115, 101, 116, 32, 55, 32, 48, 59, 32, 115, 101, 116, 32, 56, 32, 48, 59, 32, 115, 101, 116, 32, 57, 32, 48, 59, 32, 115, 101, 116, 32, 49, 48, 32, 48].toArray⟩
def ring_before.f (k : Nat) : Option (List S52 × Int) := code_Parse.f k beforeB
set_option maxHeartbeats 2000000 in
set_option maxRecDepth 100000 in
theorem ring_before.calls (k : Nat) (r1 : List S52) (r2 : Int) (w : World) (hL : LaidW w) (h : ring_before.f k = some (r1, r2)) :
    Calls Tryz.prog 24 #[] w fun e w' => ∃ v0_ : Value, e = .returned (.tuple #[v0_, .int .i64 r2]) ∧ Kd.R k52 52 w' w.heap.size (fun _ => True) v0_ r1 ∧ Below w.heap.size w w' := by
  have H := Aside0.mk h
  have HL := Aside0.mk hL
  clear h hL
  go_enter Tryz.func24, Tryz.ntmps24
  go_wp2_with (go_at_call 33; refine (code_Parse.calls k beforeB r1 r2 _ HL.out H.out).mono ?_; rintro e w1 ⟨v0, rfl, hr, hb⟩; have HR := Aside0.mk hr; have HB := Aside0.mk hb; clear hr hb)
  go_ret2
  exact ⟨_, rfl, HR.out, HB.out⟩
end Go.Proofs.YtpnmmpfidiegcaaGreatDoor.C
end
