/- Texts of this claim, together: what the functions return, and what they say in plain words. -/
import Derived.Test.YtocoamgbpoommaaGreatDoorUM
import Derived.Test.YtocoamgbpoommaaGreatDoorUB
import Derived.Test.YtocoamgbpoommaaGreatDoorUF
import Derived.Test.YtocoamgbpoommaaGreatDoorUI
section
namespace Go.Proofs.YtocoamgbpoommaaGreatDoor.C
open Go.RowKit Go.Proofs.YtocoamgbpoommaaGreatDoorW.PrintWords Go.Proofs.YtocoamgbpoommaaGreatDoorW.PrintLast Go.Proofs.YtocoamgbpoommaaGreatDoorW.PrintMore
set_option linter.unusedVariables false
set_option linter.unusedSimpArgs false
def eachInstr : List ByteArray → List S72 → Option (Option (List S72))
  | [], p => some (some p)
  | s :: l, p => (code_instr.f s).bind fun r => if r.2 = true then (if p.length < 2932031007000 then eachInstr l (p ++ [r.1]) else none) else some none
set_option maxHeartbeats 2000000 in
set_option maxRecDepth 100000 in
theorem eachInstr_calls (A0 : Option Addr) (c0 : Nat) (l : List ByteArray) (q : Option (List S72)) (w : World) (hL : LaidW w) (hr0 : Kd.C Kd.string w A0 l.length l) (hc0 : l.length ≤ c0) (h : eachInstr l [] = some q) :
    Calls Tryz.prog 73 #[.slice A0 l.length c0, .func (.func 75) #[] #[]] w fun e w' => ∃ v0_ : Value, e = .returned (.tuple #[v0_, .bool q.isSome]) ∧ Kd.R k72 72 w' w.heap.size (fun _ => True) v0_ (q.getD []) ∧ Below w.heap.size w w' := by
  have HLW := Aside0.mk hL
  have HR0 := Aside0.mk hr0
  have hlm : l.length ≤ 9223372036854775807 := hr0.2.1
  have HQ : Aside0 (eachInstr (l.drop 0) [] = some q) := ⟨h⟩
  clear hr0 hL h hc0
  go_enter Tryz.func73, Tryz.ntmps73
  go_wp2
  go_loopg [6, 13] l.length (fun kq v6 v13 wr => ∃ (i : Nat) (p : List S72), v13 = .int .i64 i ∧ Aside0 (i ≤ l.length ∧ kq + i = l.length) ∧ Aside0 (eachInstr (l.drop i) p = some q) ∧ Aside0 (Kd.R k72 72 wr w.heap.size (fun _ => True) v6 p) ∧ Aside0 (Below w.heap.size w wr))
  case atStart => exact ⟨0, [], rfl, ⟨Nat.zero_le _, rfl⟩, HQ, ⟨Kd.R_nil _ _ _ _ _⟩, ⟨Below.refl _ _⟩⟩
  case round =>
    clear HQ
    obtain ⟨i, p, rfl, HI, HA, HR, HB⟩ := hrel
    have H := HA.out
    clear HA
    by_cases hlt : (i : Int) < (l.length : Int)
    · rw [drop_row l i (by omega), eachInstr] at H
      obtain ⟨⟨x, ok⟩, hn, H⟩ := Option.bind_eq_some_iff.1 H
      dsimp only at H
      have HN := Aside0.mk H
      have HV := Aside0.mk hn
      clear H hn
      cases gk with
      | zero => exact absurd HI.out.2 (by omega)
      | succ k2 =>
      obtain ⟨ad, eA, hx0⟩ := Kd.at_string HR0.out (i : Int) (by omega) hlt
      subst eA
      rw [Int.toNat_natCast] at hx0
      replace hx0 := (HB.out.cell (World.block_lt_of_cell? w _ hx0)).trans hx0
      generalize rdOf ByteArray.empty l (i : Int) = s at *
      go_wp2_with fail
      refine (code_instr.calls s x ok _ (HLW.out.below HB.out) HV.out).mono ?_
      rintro e w2 ⟨rfl, hb2⟩
      have HR2 := Aside0.mk (Kd.R_below HR.out hb2)
      have HB2 := Aside0.mk (below_step HB.out hb2)
      clear hb2 HR HB hx0
      cases ok with
      | false =>
        obtain rfl : q = none := by have := HN.out; simpa using this.symm
        clear HN
        go_wp2
        go_ret2
        exact ⟨_, rfl, Kd.R_nil _ _ _ _ _, below_alloc HB2.out _⟩
      | true =>
        by_cases hpl : p.length < 2932031007000
        · have HN3 : Aside0 (eachInstr (l.drop (i + 1)) (p ++ [x]) = some q) := ⟨by have := HN.out; simpa [hpl] using this⟩
          have HPL := Aside0.mk hpl
          clear HN hpl
          go_wp2_with (at_builtin; refine Kd.R_append k72 (w0 := w) w.heap.size rfl _ _ 46 72 (.agg #[(.int .i64 0), (.int .i64 0), (.int .i64 0), (.int .i64 0), (.string ⟨#[]⟩)]) 48 rfl Tryz.underlying46 info72 rfl (by decide) (by omega) _ p x [.int .i64 x.f0, .int .i64 x.f1, .int .i64 x.f2, .int .i64 x.f3, .string x.f4] (fun _ => True) (fun _ => False) rfl (by first | (go_simp; done) | (go_simp; rfl)) (k72_mkM _ _ _ _) (fun _ hk => hk.elim) ?aF ?aO ?aB ?aS ?aL ?_)
          case aF => exact fun _ _ => trivial
          case aO => exact Kd.R_alloc HR2.out _
          case aB => exact below_alloc HB2.out _
          case aS => exact (below_alloc HB2.out _).size
          case aL => have := HPL.out; omega
          intro v6 w6 ho6 hb6 hg6 hat6
          have HO6 := Aside0.mk ho6
          have HB6 := Aside0.mk hb6
          clear ho6 hb6 hg6 hat6 HPL HR2 HB2
          go_wp2
          go_roundg k2
          case measure => omega
          case rel => exact ⟨i + 1, _, by go_num, ⟨by have := HI.out; omega⟩, HN3, HO6, HB6⟩
        · exact absurd HN.out (by simp [hpl])
    · have hd : l.drop i = [] := List.drop_eq_nil_of_le (by omega)
      rw [hd, eachInstr] at H
      obtain rfl := Option.some.inj H
      clear H
      have t1 : decide ((i : Int) < (l.length : Int)) = false := decide_eq_false hlt
      have t2 : decide (i < l.length) = false := decide_eq_false (by omega)
      clear hlt hd
      go_wp2
      go_ret2
      exact ⟨_, rfl, HR.out, HB.out⟩
def code_Parse.f (k : Nat) (a0 : ByteArray) : Option (List S72 × Int) :=
  if 4000000 < a0.size then some ([], 5) else if a0.toList = ([] : List UInt8) then some ([], 0) else (strings_Split.f a0 ⟨#[59, 32]⟩).bind fun l => (eachInstr l []).bind fun q => match q with
    | none => some ([], 5)
    | some p => (code_Valid.f k p).bind fun v => if v = true then some (p, 0) else some ([], 5)
set_option maxHeartbeats 2000000 in
set_option maxRecDepth 100000 in
theorem code_Parse.calls (k : Nat) (a0 : ByteArray) (r1 : List S72) (r2 : Int) (w : World) (hL : LaidW w) (h : code_Parse.f k a0 = some (r1, r2)) :
    Calls Tryz.prog 60 #[.string a0] w fun e w' => ∃ v0_ : Value, e = .returned (.tuple #[v0_, .int .i64 r2]) ∧ Kd.R k72 72 w' w.heap.size (fun _ => True) v0_ r1 ∧ Below w.heap.size w w' := by
  unfold code_Parse.f at h
  have HLW := Aside0.mk hL
  clear hL
  by_cases h4 : 4000000 < a0.size
  · rw [if_pos h4] at h
    simp only [Option.some.injEq, Prod.mk.injEq] at h
    obtain ⟨e1, e2⟩ := h
    subst e1 e2
    have t1 : decide ((4000000 : Int) < (a0.size : Int)) = true := decide_eq_true (by omega)
    have t2 : decide (4000000 < a0.size) = true := decide_eq_true h4
    clear h4
    go_enter Tryz.func60, Tryz.ntmps60
    go_wp2
    go_ret2
    exact ⟨_, rfl, Kd.R_nil _ _ _ _ _, Below.refl _ _⟩
  rw [if_neg h4] at h
  have t1 : decide ((4000000 : Int) < (a0.size : Int)) = false := decide_eq_false (by omega)
  have t2 : decide (4000000 < a0.size) = false := decide_eq_false h4
  clear h4
  by_cases h0 : a0.toList = ([] : List UInt8)
  · rw [if_pos h0] at h
    simp only [Option.some.injEq, Prod.mk.injEq] at h
    obtain ⟨e1, e2⟩ := h
    subst e1 e2
    have u1 : (a0.toList == ([] : List UInt8)) = true := beq_iff_eq.2 h0
    go_enter Tryz.func60, Tryz.ntmps60
    go_wp2
    go_ret2
    exact ⟨_, rfl, Kd.R_nil _ _ _ _ _, Below.refl _ _⟩
  rw [if_neg h0] at h
  have u1 : (a0.toList == ([] : List UInt8)) = false := beq_eq_false_iff_ne.2 h0
  clear h0
  obtain ⟨l, hl, h⟩ := Option.bind_eq_some_iff.1 h
  obtain ⟨q, hq, h⟩ := Option.bind_eq_some_iff.1 h
  have HSP := Aside0.mk hl
  have HQ := Aside0.mk hq
  have HH := Aside0.mk h
  clear hl hq h
  go_enter Tryz.func60, Tryz.ntmps60
  go_wp2_with fail
  refine (strings_Split.calls a0 _ l _ HLW.out HSP.out).mono ?_
  rintro e w1 ⟨v1, rfl, hr1, hb1⟩
  obtain ⟨A1, cap1, rfl, hc1, hC1⟩ := Kd.R_reads hr1
  have HB1 := Aside0.mk hb1
  have HE := Aside0.mk (eachInstr_calls A1 cap1 l q w1 (HLW.out.below hb1) hC1 hc1 HQ.out)
  clear hr1 hb1 hC1 hc1
  go_wp2_with fail
  refine HE.out.mono ?_
  rintro e w2 ⟨v2, rfl, hr2, hb2⟩
  have HB2 := Aside0.mk (below_step HB1.out hb2)
  have HR2 := Aside0.mk (Kd.R_lower hr2 HB1.out.size)
  clear hr2 hb2
  cases q with
  | none =>
    have hh := HH.out
    simp only [Option.some.injEq, Prod.mk.injEq] at hh
    obtain ⟨e1, e2⟩ := hh
    subst e1 e2
    go_wp2
    go_ret2
    exact ⟨_, rfl, Kd.R_nil _ _ _ _ _, HB2.out⟩
  | some p =>
    have hh := HH.out
    dsimp only at hh
    obtain ⟨v, hv, hh⟩ := Option.bind_eq_some_iff.1 hh
    have HV := Aside0.mk hv
    obtain ⟨A2, cap2, rfl, hc2, hC2⟩ := Kd.R_reads HR2.out
    have HC2 := Aside0.mk hC2
    have HCC := Aside0.mk hc2
    clear hv hC2 hc2
    go_wp2_with fail
    refine (code_Valid.calls k A2 cap2 p v w2 HC2.out HCC.out HV.out).mono ?_
    rintro e w3 ⟨rfl, hb3⟩
    have HB3 := Aside0.mk (below_step HB2.out hb3)
    have HR3 := Aside0.mk (Kd.R_below HR2.out hb3)
    clear hb3
    cases v with
    | false =>
      simp only [Bool.false_eq_true, if_false, Option.some.injEq, Prod.mk.injEq] at hh
      obtain ⟨e1, e2⟩ := hh
      subst e1 e2
      go_wp2
      go_ret2
      exact ⟨_, rfl, Kd.R_nil _ _ _ _ _, HB3.out⟩
    | true =>
      simp only [if_true, Option.some.injEq, Prod.mk.injEq] at hh
      obtain ⟨e1, e2⟩ := hh
      subst e1 e2
      go_wp2
      go_ret2
      exact ⟨_, rfl, HR3.out, HB3.out⟩
end Go.Proofs.YtocoamgbpoommaaGreatDoor.C
end
section
namespace Go.Proofs.YtocoamgbpoommaaGreatDoor.C
open Go.RowKit Go.Proofs.YtocoamgbpoommaaGreatDoorW.PrintWords Go.Proofs.YtocoamgbpoommaaGreatDoorW.PrintLast Go.Proofs.YtocoamgbpoommaaGreatDoorW.PrintMore
set_option linter.unusedVariables false
set_option linter.unusedSimpArgs false
def beforeB : ByteArray := ⟨[104, 101, 97, 100, 32, 50, 32, 48, 59, 32, 116, 97, 105, 108, 32, 51, 32, 48, 59, 32, 115, 101, 116, 32, 48, 32, 48, 59, 32, 109, 111, 118, 101, 32, 52, 32, 50, 59, 32, 115, 101, 116, 32, 55, 32, 49, 48, 48, 59, 32, 106, 117, 109, 112, 32, 55, 32, 52, 59, 32, 104, 101, 97, 100, 32, 54, 32, 52, 59, 32, 99, 111, 110, 115, 32, 53, 32, 54, 32, 53, 59, 32, 116, 97, 105, 108, 32, 52, 32, 52, 59, 32, 106, 117, 109, 112, 32, 52, 32, 45, 51, 59, 32, 99, 111, 110, 115, 32, 56, 32, 55, 32, 50, 59, 32, 99, 111, 110, 115, 32, 56, 32, 49, 32, 56, 59, 32, 115, 101, 116, 32, 57, 32, 49, 48, 49, 49, 48, 48, 48, 59, 32, 115, 101, 116, 32, 49, 48, 32, 49, 49, 48, 49, 48, 48, 49, 48, 49, 49, 48, 48, 48, 59, 32, 106, 117, 109, 112, 32, 55, 32, 55, 59, 32, 104, 101, 97, 100, 32, 54, 32, 53, 59, 32, 99, 111, 110, 115, 32, 54, 32, 57, 32, 54, 59, 32, 99, 111, 110, 115, 32, 54, 32, 49, 48, 32, 54, 59, 32, 99, 111, 110, 115, 32, 54, 32, 56, 32, 54, 59, 32, 99, 111, 110, 115, 32, 48, 32, 54, 32, 48, 59, 32, 116, 97, 105, 108, 32, 53, 32, 53, 59, 32, 106, 117, 109, 112, 32, 53, 32, 45, 54, 59, 32, 99, 111, 110, 115, 32, 48, 32, 48, 32, 51, 59, 32, 115, 101, 116, 32, 50, 32, 48, 59, 32, 115, 101, 116, 32, 51, 32, 48, 59, 32, 115, 101, 116, 32, 54, 32, 48, 59, 32, 115, 101, 116, 32, 55, 32, 48, 59, 32, 115, 101, 116, 32, 56, 32, 48, 59, 32, 115, 101, 116, 32, 57, 32, 48, 59, 32, 115, 101, 116, 32, 49, 48, 32, 48].toArray⟩
def ring_before.f (k : Nat) : Option (List S72 × Int) := code_Parse.f k beforeB
set_option maxHeartbeats 2000000 in
set_option maxRecDepth 100000 in
theorem ring_before.calls (k : Nat) (r1 : List S72) (r2 : Int) (w : World) (hL : LaidW w) (h : ring_before.f k = some (r1, r2)) :
    Calls Tryz.prog 41 #[] w fun e w' => ∃ v0_ : Value, e = .returned (.tuple #[v0_, .int .i64 r2]) ∧ Kd.R k72 72 w' w.heap.size (fun _ => True) v0_ r1 ∧ Below w.heap.size w w' := by
  have H := Aside0.mk h
  have HL := Aside0.mk hL
  clear h hL
  go_enter Tryz.func41, Tryz.ntmps41
  go_wp2_with (go_at_call 60; refine (code_Parse.calls k beforeB r1 r2 _ HL.out H.out).mono ?_; rintro e w1 ⟨v0, rfl, hr, hb⟩; have HR := Aside0.mk hr; have HB := Aside0.mk hb; clear hr hb)
  go_ret2
  exact ⟨_, rfl, HR.out, HB.out⟩
end Go.Proofs.YtocoamgbpoommaaGreatDoor.C
end
section
namespace Go.Proofs.YtocoamgbpoommaaGreatDoor.C
open Go.RowKit Go.Proofs.YtocoamgbpoommaaGreatDoorW.PrintWords Go.Proofs.YtocoamgbpoommaaGreatDoorW.PrintLast Go.Proofs.YtocoamgbpoommaaGreatDoorW.PrintMore
attribute [local go_sem] max2_int min2_int max_two min_two max_three min_three max_four min_four
set_option linter.unusedVariables false
set_option linter.unusedSimpArgs false
def ring_list.l0 : Nat → List Int → List (List (S72)) → Int → Int → Option (ByteArray × Int)
 | 0, _, _, _, _ => none
 | k + 1, x4, x9, x10, x11 => if x11 < x10 then (if 0 ≤ x11 then (if x11 < (x9.length : Int) then ((code_Valid.f k (rd_L3 x9 x11)).bind fun t5 => (if t5 = true then ((code_Code.f k (rd_L3 x9 x11)).bind fun bt6 => (if bt6.2 = 0 then (if x4.length < 140737488355328 then ((some (x4 ++ [49] : List Int)).bind fun y8 => (if y8.length + bt6.1.size < 140737488355328 then ((some (y8 ++ bytesOf bt6.1 : List Int)).bind fun y11 => (if (y11.length : Int) ≥ 2000000 then (some ((⟨#[]⟩ : ByteArray), 3)) else (ring_list.l0 k y11 x9 x10 (wrap64 (x11 + 1))))) else (none))) else (none)) else (some ((⟨#[]⟩ : ByteArray), bt6.2)))) else (some ((⟨#[]⟩ : ByteArray), 3)))) else (none)) else (none)) else (if x4.length < 140737488355328 then (some (strOfNums (x4 ++ [48]), 0)) else (none))
def ring_list.f (k : Nat) (l0 : List (List (S72))) : Option (ByteArray × Int) := ring_list.l0 k ([] : List Int) l0 (l0.length : Int) 0
set_option maxHeartbeats 8000000 in
set_option maxRecDepth 100000 in
theorem ring_list.calls (k : Nat) (A0 : Option Addr) (c0 : Nat) (l0 : List (List (S72))) (r1 : ByteArray) (r2 : Int) (w : World) (hr0 : Kd.C (Kd.slice 72 k72) w A0 l0.length l0) (hc0 : l0.length ≤ c0) (h : ring_list.f k l0 = some (r1, r2)) :
  Calls Tryz.prog 42 #[.slice A0 l0.length c0] w fun e w' => e = .returned (.tuple #[.string r1, .int .i64 r2]) ∧ Below w.heap.size w w' := by
 have HR0 := Aside0.mk hr0
 have HC0 := Aside0.mk hc0
 clear hr0 hc0
 have HB := Aside0.mk (Below.refl w.heap.size w)
 have H : (ring_list.l0 k ([] : List Int) l0 (l0.length : Int) 0) = some (r1, r2) := h
 clear h
 have H' := Aside0.mk H
 clear H
 go_enter Tryz.func42, Tryz.ntmps42
 go_wp2
 go_loopg [4, 11] k (fun kq v4 v11 w' => ∃ (x4_1 : List Int) (x11_1 : Int), v11 = .int .i64 x11_1 ∧ Aside0 (ring_list.l0 kq x4_1 l0 (l0.length : Int) x11_1 = some (r1, r2)) ∧ Aside0 (kq ≤ k) ∧ Aside0 (Kd.R (Kd.int .u8) 5 w' w.heap.size (fun _ => True) v4 x4_1) ∧ Aside0 (Below w.heap.size w w'))
 case atStart => exact ⟨(([] : List Int)), (0), (by first | rfl | (simp; done) | (simp [*]; done)), H', ⟨Nat.le_refl _⟩, ⟨by first | exact Kd.R_nil _ _ _ _ _ | exact Kd.N_nil _ _ _ _ _ | exact Kd.V_nil _ _ _ _ _ | exact Kd.Q_nil _ _ _ _ _ | exact Kd.S_nil _ _ _ _ _⟩, ⟨by repeat (first | (with_reducible first | exact HB.out | apply below_alloc | apply pw_below_drewN | apply below_drew1) | exact HB.out)⟩⟩
 case round =>
  clear H'
  obtain ⟨x4_1, x11_1, rfl, HA, HK1, HO_4, HB⟩ := hrel
  cases gk with
  | zero => exact absurd HA.out (by simp [ring_list.l0])
  | succ k1 =>
   have H := HA.out
   clear HA
   simp only [ring_list.l0] at H
   by_cases c2 : x11_1 < (l0.length : Int)
   ·rw [if_pos c2] at H
    have c2b0 : decide (x11_1 < (l0.length : Int)) = true := decide_eq_true c2
    clear c2
    by_cases c3 : 0 ≤ x11_1
    ·rw [if_pos c3] at H
     have c3b0 : decide (0 ≤ x11_1) = true := decide_eq_true c3
     clear c3
     by_cases c4 : x11_1 < (l0.length : Int)
     ·rw [if_pos c4] at H
      have c4b0 : decide (x11_1 < (l0.length : Int)) = true := decide_eq_true c4
      clear c4
      replace H := Option.bind_eq_some_iff.mp H
      obtain ⟨t5, A50, H⟩ := H
      replace H : (if t5 = true then ((code_Code.f k1 (rd_L3 l0 x11_1)).bind fun bt6 => (if bt6.2 = 0 then (if x4_1.length < 140737488355328 then ((some (x4_1 ++ [49] : List Int)).bind fun y8 => (if y8.length + bt6.1.size < 140737488355328 then ((some (y8 ++ bytesOf bt6.1 : List Int)).bind fun y11 => (if (y11.length : Int) ≥ 2000000 then (some ((⟨#[]⟩ : ByteArray), 3)) else (ring_list.l0 k1 y11 l0 (l0.length : Int) (wrap64 (x11_1 + 1))))) else (none))) else (none)) else (some ((⟨#[]⟩ : ByteArray), bt6.2)))) else (some ((⟨#[]⟩ : ByteArray), 3))) = some (r1, r2) := H
      have A5 := Aside0.mk A50
      clear A50
      by_cases c6 : t5 = true
      ·subst c6
       have H1 : ((code_Code.f k1 (rd_L3 l0 x11_1)).bind fun bt6 => (if bt6.2 = 0 then (if x4_1.length < 140737488355328 then ((some (x4_1 ++ [49] : List Int)).bind fun y8 => (if y8.length + bt6.1.size < 140737488355328 then ((some (y8 ++ bytesOf bt6.1 : List Int)).bind fun y11 => (if (y11.length : Int) ≥ 2000000 then (some ((⟨#[]⟩ : ByteArray), 3)) else (ring_list.l0 k1 y11 l0 (l0.length : Int) (wrap64 (x11_1 + 1))))) else (none))) else (none)) else (some ((⟨#[]⟩ : ByteArray), bt6.2)))) = some (r1, r2) := by rw [if_pos rfl] at H; exact H
       clear H
       have H := H1
       clear H1
       replace H := Option.bind_eq_some_iff.mp H
       obtain ⟨⟨t6, t7⟩, A70, H⟩ := H
       replace H : (if t7 = 0 then (if x4_1.length < 140737488355328 then ((some (x4_1 ++ [49] : List Int)).bind fun y8 => (if y8.length + t6.size < 140737488355328 then ((some (y8 ++ bytesOf t6 : List Int)).bind fun y11 => (if (y11.length : Int) ≥ 2000000 then (some ((⟨#[]⟩ : ByteArray), 3)) else (ring_list.l0 k1 y11 l0 (l0.length : Int) (wrap64 (x11_1 + 1))))) else (none))) else (none)) else (some ((⟨#[]⟩ : ByteArray), t7))) = some (r1, r2) := H
       have A7 := Aside0.mk A70
       clear A70
       by_cases c8 : t7 = 0
       ·rw [if_pos c8] at H
        have c8b0 : (t7 == 0) = true := beq_iff_eq.mpr c8
        have c8b1 : (t7 != 0) = false := bne_eq_false_iff_eq.mpr c8
        clear c8
        by_cases c9 : x4_1.length < 140737488355328
        ·rw [if_pos c9] at H
         have LMc9 := Aside0.mk c9
         clear c9
         obtain ⟨y8, hy8⟩ : ∃ y_ : List Int, y_ = (x4_1 ++ [49]) := ⟨_, rfl⟩
         replace H : (if y8.length + t6.size < 140737488355328 then ((some (y8 ++ bytesOf t6 : List Int)).bind fun y11 => (if (y11.length : Int) ≥ 2000000 then (some ((⟨#[]⟩ : ByteArray), 3)) else (ring_list.l0 k1 y11 l0 (l0.length : Int) (wrap64 (x11_1 + 1))))) else (none)) = some (r1, r2) := by first | (rw [hy8]; with_reducible exact H) | (have H2_ := (Option.bind_some _ _).symm.trans H; rw [hy8]; with_reducible exact H2_) | (have H2_ := (Option.bind_some _ _).symm.trans H; with_reducible exact H2_) | with_reducible exact H | (rw [hy8]; exact H) | exact H
         have Ny8 := Aside0.mk hy8
         clear hy8
         by_cases c10 : y8.length + t6.size < 140737488355328
         ·rw [if_pos c10] at H
          have LMc10 := Aside0.mk c10
          clear c10
          obtain ⟨y11, hy11⟩ : ∃ y_ : List Int, y_ = (y8 ++ bytesOf t6) := ⟨_, rfl⟩
          replace H : (if (y11.length : Int) ≥ 2000000 then (some ((⟨#[]⟩ : ByteArray), 3)) else (ring_list.l0 k1 y11 l0 (l0.length : Int) (wrap64 (x11_1 + 1)))) = some (r1, r2) := by first | (rw [hy11]; with_reducible exact H) | (have H2_ := (Option.bind_some _ _).symm.trans H; rw [hy11]; with_reducible exact H2_) | (have H2_ := (Option.bind_some _ _).symm.trans H; with_reducible exact H2_) | with_reducible exact H | (rw [hy11]; exact H) | exact H
          have Ny11 := Aside0.mk hy11
          clear hy11
          by_cases c11 : (y11.length : Int) ≥ 2000000
          ·rw [if_pos c11] at H
           have c11b0 : decide (2000000 ≤ (y11.length : Int)) = true := decide_eq_true c11
           have c11b1 : decide (2000000 ≤ y11.length) = true := decide_eq_true (by omega)
           clear c11
           simp only [Option.some.injEq, Prod.mk.injEq] at H
           obtain ⟨rfl, rfl⟩ := H
           have p4 : 0 ≤ (x11_1 : Int) := of_decide_eq_true (by first | (with_reducible assumption) | assumption)
           have q4 : x11_1 < (l0.length : Int) := of_decide_eq_true (by first | (with_reducible assumption) | assumption)
           obtain ⟨ad4, A4_0, c4_0, e4, hx4_0, hl4_0, hi4_0⟩ := at_L3 HR0.out x11_1 p4 q4
           cases e4
           replace hx4_0 := (HB.out.cell (World.block_lt_of_cell? w _ hx4_0)).trans hx4_0
           have HR4_0 := Aside0.mk hi4_0
           have HC4_0 := Aside0.mk hl4_0
           clear hi4_0 hl4_0
           replace p4 := eq_true p4
           replace q4 := eq_true q4
           go_wp2_with (first | ((with_reducible refine gate_callee (f := 40) rfl ?_); refine goesL_ (some 16) rfl rfl Tryz.func40 (by kernel_rfl) rfl #[.slice A4_0 (rd_L3 l0 x11_1).length c4_0] rfl (by (try simp only [List.map_toArray, List.map_cons, List.map_nil]); first | done | rfl | (simp only [List.length_drop, List.length_take]; rfl)) ?_; (with_reducible refine (code_Valid.calls k1 _ _ (rd_L3 l0 x11_1) true _ ?side1 ?side2 A5.out).mono ?_); (case side1 => repeat (first | exact (Kd.C_below HR4_0.out HB.out) | (with_reducible refine Kd.C_alloc ?_ _) | (with_reducible refine Kd.C_drewN ?_ _) | (with_reducible refine Kd.C_drew ?_))); (case side2 => exact HC4_0.out); rintro e w12 ⟨rfl, hb⟩; refine ⟨_, rfl, ?_⟩; have n0_ := Aside0.mk (Kd.R_below (by (with_reducible repeat (first | apply Kd.R_alloc | apply Kd.R_drewN | apply Kd.R_drew)); exact HO_4.out) hb); have n1_ := Aside0.mk (below_step (by repeat (first | (with_reducible first | exact HB.out | apply below_alloc | apply pw_below_drewN | apply below_drew1) | exact HB.out)) hb); clear HO_4; clear HB; have HO_4 := n0_; have HB := n1_; clear n0_ n1_; (try clear hb); (try clear hb2); (try clear hk); (try clear hi)) | ((with_reducible refine gate_callee (f := 61) rfl ?_); refine goesL_ (some 20) rfl rfl Tryz.func61 (by kernel_rfl) rfl #[.slice A4_0 (rd_L3 l0 x11_1).length c4_0] rfl (by (try simp only [List.map_toArray, List.map_cons, List.map_nil]); first | done | rfl | (simp only [List.length_drop, List.length_take]; rfl)) ?_; (with_reducible refine (code_Code.calls k1 _ _ (rd_L3 l0 x11_1) t6 t7 _ ?side1 ?side2 A7.out).mono ?_); (case side1 => repeat (first | exact (Kd.C_below HR4_0.out HB.out) | (with_reducible refine Kd.C_alloc ?_ _) | (with_reducible refine Kd.C_drewN ?_ _) | (with_reducible refine Kd.C_drew ?_))); (case side2 => exact HC4_0.out); rintro e w13 ⟨rfl, hb⟩; refine ⟨_, rfl, ?_⟩; have n0_ := Aside0.mk (Kd.R_below (by (with_reducible repeat (first | apply Kd.R_alloc | apply Kd.R_drewN | apply Kd.R_drew)); exact HO_4.out) hb); have n1_ := Aside0.mk (below_step (by repeat (first | (with_reducible first | exact HB.out | apply below_alloc | apply pw_below_drewN | apply below_drew1) | exact HB.out)) hb); clear HO_4; clear HB; have HO_4 := n0_; have HB := n1_; clear n0_ n1_; (try clear hb); (try clear hb2); (try clear hk); (try clear hi)) | ((with_reducible refine gate_builtin (b := .append) (xs := #[.tmp 26, .tmp 27]) rfl ?_); at_builtin; refine Kd.R_append (Kd.int .u8) (w0 := w) w.heap.size rfl (.tmp 26) (.tmp 27) 94 5 (.int .u8 0) 1 rfl Tryz.underlying94 info5 rfl (by decide) (by omega) u4 x4_1 49 [.int .u8 49] (fun _ => True) (fun _ => False) rfl rfl ?aP (fun _ hk => hk.elim) ?aF ?aO ?aB ?aS ?aL ?_; (case aP => exact rfl); (case aB => exact (by repeat (first | (with_reducible first | exact HB.out | apply below_alloc | apply pw_below_drewN | apply below_drew1) | exact HB.out))); (case aF => exact (fun _ _ => trivial)); (case aO => exact (by (with_reducible repeat (first | apply Kd.R_alloc | apply Kd.R_drewN | apply Kd.R_drew)); exact HO_4.out)); (case aS => exact (below_size (by repeat (first | (with_reducible first | exact HB.out | apply below_alloc | apply pw_below_drewN | apply below_drew1) | exact HB.out)))); (case aL => have := LMc9.out; first | omega | (simp only [lit_size, List.size_toArray, List.length_cons, List.length_nil]; omega)); intro v9 w14 ho hb hg hat; rw [← Ny8.out] at ho; have n0_ := Aside0.mk (hb); have n1_ := Aside0.mk (ho); clear HB; clear HO_4; have HB := n0_; have HO10 := n1_; clear n0_ n1_; clear ho hb hg hat) | (at_builtin; refine print_append_str (w0 := w) w.heap.size rfl (.tmp 28) _ 94 9 5 rfl Tryz.underlying94 Tryz.underlying9 info5 v9 y8 t6 rfl rfl ?aO ?aB ?aS ?aL ?_; (case aB => exact (by repeat (first | (with_reducible first | exact HB.out | apply below_alloc | apply pw_below_drewN | apply below_drew1) | exact HB.out))); (case aO => exact (Kd.own_of_R (by (with_reducible repeat (first | apply Kd.R_alloc | apply Kd.R_drewN | apply Kd.R_drew)); exact HO10.out))); (case aS => exact (below_size (by repeat (first | (with_reducible first | exact HB.out | apply below_alloc | apply pw_below_drewN | apply below_drew1) | exact HB.out)))); (case aL => have := LMc10.out; first | omega | (simp only [lit_size, List.size_toArray, List.length_cons, List.length_nil]; omega)); intro v12 w15 ho0 hb hg; have ho := Kd.R_of_own (h1 := fun _ => rfl) (ok := fun _ => True) ho0 (fun _ _ => trivial); clear ho0; have hat := True.intro; rw [← Ny11.out] at ho; change Kd.R (Kd.int .u8) 5 w15 w.heap.size (fun _ => True) v12 y11 at ho; have n0_ := Aside0.mk (hb); have n1_ := Aside0.mk (ho); clear HB; clear HO10; have HB := n0_; have HO13 := n1_; clear n0_ n1_; clear ho hb hg hat; obtain ⟨Ao16, co16, eo16⟩ := Kd.R_slice HO13.out; subst eo16))
           go_ret2
           exact ⟨by first | rfl | (simp [errW_none, errW_some] <;> rfl) | (simp [*, errW_none, errW_some] <;> rfl), by repeat (first | (with_reducible first | exact HB.out | apply below_alloc | apply pw_below_drewN | apply below_drew1) | exact HB.out)⟩
          ·rw [if_neg c11] at H
           have c11b0 : decide (2000000 ≤ (y11.length : Int)) = false := decide_eq_false c11
           have c11b1 : decide (2000000 ≤ y11.length) = false := decide_eq_false (by omega)
           clear c11
           have H' := Aside0.mk H
           clear H
           have p4 : 0 ≤ (x11_1 : Int) := of_decide_eq_true (by first | (with_reducible assumption) | assumption)
           have q4 : x11_1 < (l0.length : Int) := of_decide_eq_true (by first | (with_reducible assumption) | assumption)
           obtain ⟨ad4, A4_0, c4_0, e4, hx4_0, hl4_0, hi4_0⟩ := at_L3 HR0.out x11_1 p4 q4
           cases e4
           replace hx4_0 := (HB.out.cell (World.block_lt_of_cell? w _ hx4_0)).trans hx4_0
           have HR4_0 := Aside0.mk hi4_0
           have HC4_0 := Aside0.mk hl4_0
           clear hi4_0 hl4_0
           replace p4 := eq_true p4
           replace q4 := eq_true q4
           go_wp2_with (first | ((with_reducible refine gate_callee (f := 40) rfl ?_); refine goesL_ (some 16) rfl rfl Tryz.func40 (by kernel_rfl) rfl #[.slice A4_0 (rd_L3 l0 x11_1).length c4_0] rfl (by (try simp only [List.map_toArray, List.map_cons, List.map_nil]); first | done | rfl | (simp only [List.length_drop, List.length_take]; rfl)) ?_; (with_reducible refine (code_Valid.calls k1 _ _ (rd_L3 l0 x11_1) true _ ?side1 ?side2 A5.out).mono ?_); (case side1 => repeat (first | exact (Kd.C_below HR4_0.out HB.out) | (with_reducible refine Kd.C_alloc ?_ _) | (with_reducible refine Kd.C_drewN ?_ _) | (with_reducible refine Kd.C_drew ?_))); (case side2 => exact HC4_0.out); rintro e w17 ⟨rfl, hb⟩; refine ⟨_, rfl, ?_⟩; have n0_ := Aside0.mk (Kd.R_below (by (with_reducible repeat (first | apply Kd.R_alloc | apply Kd.R_drewN | apply Kd.R_drew)); exact HO_4.out) hb); have n1_ := Aside0.mk (below_step (by repeat (first | (with_reducible first | exact HB.out | apply below_alloc | apply pw_below_drewN | apply below_drew1) | exact HB.out)) hb); clear HO_4; clear HB; have HO_4 := n0_; have HB := n1_; clear n0_ n1_; (try clear hb); (try clear hb2); (try clear hk); (try clear hi)) | ((with_reducible refine gate_callee (f := 61) rfl ?_); refine goesL_ (some 20) rfl rfl Tryz.func61 (by kernel_rfl) rfl #[.slice A4_0 (rd_L3 l0 x11_1).length c4_0] rfl (by (try simp only [List.map_toArray, List.map_cons, List.map_nil]); first | done | rfl | (simp only [List.length_drop, List.length_take]; rfl)) ?_; (with_reducible refine (code_Code.calls k1 _ _ (rd_L3 l0 x11_1) t6 t7 _ ?side1 ?side2 A7.out).mono ?_); (case side1 => repeat (first | exact (Kd.C_below HR4_0.out HB.out) | (with_reducible refine Kd.C_alloc ?_ _) | (with_reducible refine Kd.C_drewN ?_ _) | (with_reducible refine Kd.C_drew ?_))); (case side2 => exact HC4_0.out); rintro e w18 ⟨rfl, hb⟩; refine ⟨_, rfl, ?_⟩; have n0_ := Aside0.mk (Kd.R_below (by (with_reducible repeat (first | apply Kd.R_alloc | apply Kd.R_drewN | apply Kd.R_drew)); exact HO_4.out) hb); have n1_ := Aside0.mk (below_step (by repeat (first | (with_reducible first | exact HB.out | apply below_alloc | apply pw_below_drewN | apply below_drew1) | exact HB.out)) hb); clear HO_4; clear HB; have HO_4 := n0_; have HB := n1_; clear n0_ n1_; (try clear hb); (try clear hb2); (try clear hk); (try clear hi)) | ((with_reducible refine gate_builtin (b := .append) (xs := #[.tmp 26, .tmp 27]) rfl ?_); at_builtin; refine Kd.R_append (Kd.int .u8) (w0 := w) w.heap.size rfl (.tmp 26) (.tmp 27) 94 5 (.int .u8 0) 1 rfl Tryz.underlying94 info5 rfl (by decide) (by omega) u4 x4_1 49 [.int .u8 49] (fun _ => True) (fun _ => False) rfl rfl ?aP (fun _ hk => hk.elim) ?aF ?aO ?aB ?aS ?aL ?_; (case aP => exact rfl); (case aB => exact (by repeat (first | (with_reducible first | exact HB.out | apply below_alloc | apply pw_below_drewN | apply below_drew1) | exact HB.out))); (case aF => exact (fun _ _ => trivial)); (case aO => exact (by (with_reducible repeat (first | apply Kd.R_alloc | apply Kd.R_drewN | apply Kd.R_drew)); exact HO_4.out)); (case aS => exact (below_size (by repeat (first | (with_reducible first | exact HB.out | apply below_alloc | apply pw_below_drewN | apply below_drew1) | exact HB.out)))); (case aL => have := LMc9.out; first | omega | (simp only [lit_size, List.size_toArray, List.length_cons, List.length_nil]; omega)); intro v9 w19 ho hb hg hat; rw [← Ny8.out] at ho; have n0_ := Aside0.mk (hb); have n1_ := Aside0.mk (ho); clear HB; clear HO_4; have HB := n0_; have HO10 := n1_; clear n0_ n1_; clear ho hb hg hat) | (at_builtin; refine print_append_str (w0 := w) w.heap.size rfl (.tmp 28) _ 94 9 5 rfl Tryz.underlying94 Tryz.underlying9 info5 v9 y8 t6 rfl rfl ?aO ?aB ?aS ?aL ?_; (case aB => exact (by repeat (first | (with_reducible first | exact HB.out | apply below_alloc | apply pw_below_drewN | apply below_drew1) | exact HB.out))); (case aO => exact (Kd.own_of_R (by (with_reducible repeat (first | apply Kd.R_alloc | apply Kd.R_drewN | apply Kd.R_drew)); exact HO10.out))); (case aS => exact (below_size (by repeat (first | (with_reducible first | exact HB.out | apply below_alloc | apply pw_below_drewN | apply below_drew1) | exact HB.out)))); (case aL => have := LMc10.out; first | omega | (simp only [lit_size, List.size_toArray, List.length_cons, List.length_nil]; omega)); intro v12 w20 ho0 hb hg; have ho := Kd.R_of_own (h1 := fun _ => rfl) (ok := fun _ => True) ho0 (fun _ _ => trivial); clear ho0; have hat := True.intro; rw [← Ny11.out] at ho; change Kd.R (Kd.int .u8) 5 w20 w.heap.size (fun _ => True) v12 y11 at ho; have n0_ := Aside0.mk (hb); have n1_ := Aside0.mk (ho); clear HB; clear HO10; have HB := n0_; have HO13 := n1_; clear n0_ n1_; clear ho hb hg hat; obtain ⟨Ao21, co21, eo21⟩ := Kd.R_slice HO13.out; subst eo21))
           go_roundg k1
           case measure => have := HK1.out; omega
           case rel => exact ⟨(y11), (wrap64 (x11_1 + 1)), (by first | rfl | (simp; done) | (simp [*]; done)), H', ⟨by have := HK1.out; omega⟩, ⟨by (with_reducible repeat (first | apply Kd.R_alloc | apply Kd.R_drewN | apply Kd.R_drew)); exact HO13.out⟩, ⟨by repeat (first | (with_reducible first | exact HB.out | apply below_alloc | apply pw_below_drewN | apply below_drew1) | exact HB.out)⟩⟩
         ·rw [if_neg c10] at H
          exact absurd H (by simp)
        ·rw [if_neg c9] at H
         exact absurd H (by simp)
       ·rw [if_neg c8] at H
        have c8b0 : (t7 == 0) = false := beq_eq_false_iff_ne.mpr c8
        have c8b1 : (t7 != 0) = true := bne_iff_ne.mpr c8
        simp only [Option.some.injEq, Prod.mk.injEq] at H
        obtain ⟨rfl, rfl⟩ := H
        have p4 : 0 ≤ (x11_1 : Int) := of_decide_eq_true (by first | (with_reducible assumption) | assumption)
        have q4 : x11_1 < (l0.length : Int) := of_decide_eq_true (by first | (with_reducible assumption) | assumption)
        obtain ⟨ad4, A4_0, c4_0, e4, hx4_0, hl4_0, hi4_0⟩ := at_L3 HR0.out x11_1 p4 q4
        cases e4
        replace hx4_0 := (HB.out.cell (World.block_lt_of_cell? w _ hx4_0)).trans hx4_0
        have HR4_0 := Aside0.mk hi4_0
        have HC4_0 := Aside0.mk hl4_0
        clear hi4_0 hl4_0
        replace p4 := eq_true p4
        replace q4 := eq_true q4
        go_wp2_with (first | ((with_reducible refine gate_callee (f := 40) rfl ?_); refine goesL_ (some 16) rfl rfl Tryz.func40 (by kernel_rfl) rfl #[.slice A4_0 (rd_L3 l0 x11_1).length c4_0] rfl (by (try simp only [List.map_toArray, List.map_cons, List.map_nil]); first | done | rfl | (simp only [List.length_drop, List.length_take]; rfl)) ?_; (with_reducible refine (code_Valid.calls k1 _ _ (rd_L3 l0 x11_1) true _ ?side1 ?side2 A5.out).mono ?_); (case side1 => repeat (first | exact (Kd.C_below HR4_0.out HB.out) | (with_reducible refine Kd.C_alloc ?_ _) | (with_reducible refine Kd.C_drewN ?_ _) | (with_reducible refine Kd.C_drew ?_))); (case side2 => exact HC4_0.out); rintro e w22 ⟨rfl, hb⟩; refine ⟨_, rfl, ?_⟩; have n0_ := Aside0.mk (Kd.R_below (by (with_reducible repeat (first | apply Kd.R_alloc | apply Kd.R_drewN | apply Kd.R_drew)); exact HO_4.out) hb); have n1_ := Aside0.mk (below_step (by repeat (first | (with_reducible first | exact HB.out | apply below_alloc | apply pw_below_drewN | apply below_drew1) | exact HB.out)) hb); clear HO_4; clear HB; have HO_4 := n0_; have HB := n1_; clear n0_ n1_; (try clear hb); (try clear hb2); (try clear hk); (try clear hi)) | ((with_reducible refine gate_callee (f := 61) rfl ?_); refine goesL_ (some 20) rfl rfl Tryz.func61 (by kernel_rfl) rfl #[.slice A4_0 (rd_L3 l0 x11_1).length c4_0] rfl (by (try simp only [List.map_toArray, List.map_cons, List.map_nil]); first | done | rfl | (simp only [List.length_drop, List.length_take]; rfl)) ?_; (with_reducible refine (code_Code.calls k1 _ _ (rd_L3 l0 x11_1) t6 t7 _ ?side1 ?side2 A7.out).mono ?_); (case side1 => repeat (first | exact (Kd.C_below HR4_0.out HB.out) | (with_reducible refine Kd.C_alloc ?_ _) | (with_reducible refine Kd.C_drewN ?_ _) | (with_reducible refine Kd.C_drew ?_))); (case side2 => exact HC4_0.out); rintro e w23 ⟨rfl, hb⟩; refine ⟨_, rfl, ?_⟩; have n0_ := Aside0.mk (Kd.R_below (by (with_reducible repeat (first | apply Kd.R_alloc | apply Kd.R_drewN | apply Kd.R_drew)); exact HO_4.out) hb); have n1_ := Aside0.mk (below_step (by repeat (first | (with_reducible first | exact HB.out | apply below_alloc | apply pw_below_drewN | apply below_drew1) | exact HB.out)) hb); clear HO_4; clear HB; have HO_4 := n0_; have HB := n1_; clear n0_ n1_; (try clear hb); (try clear hb2); (try clear hk); (try clear hi)))
        go_ret2
        exact ⟨by first | rfl | (simp [errW_none, errW_some] <;> rfl) | (simp [*, errW_none, errW_some] <;> rfl), by repeat (first | (with_reducible first | exact HB.out | apply below_alloc | apply pw_below_drewN | apply below_drew1) | exact HB.out)⟩
      ·replace c6 := Bool.eq_false_iff.mpr c6
       subst c6
       have H1 : (some ((⟨#[]⟩ : ByteArray), 3)) = some (r1, r2) := by rw [if_neg (show ¬ (false = true) by decide)] at H; exact H
       clear H
       have H := H1
       clear H1
       simp only [Option.some.injEq, Prod.mk.injEq] at H
       obtain ⟨rfl, rfl⟩ := H
       have p4 : 0 ≤ (x11_1 : Int) := of_decide_eq_true (by first | (with_reducible assumption) | assumption)
       have q4 : x11_1 < (l0.length : Int) := of_decide_eq_true (by first | (with_reducible assumption) | assumption)
       obtain ⟨ad4, A4_0, c4_0, e4, hx4_0, hl4_0, hi4_0⟩ := at_L3 HR0.out x11_1 p4 q4
       cases e4
       replace hx4_0 := (HB.out.cell (World.block_lt_of_cell? w _ hx4_0)).trans hx4_0
       have HR4_0 := Aside0.mk hi4_0
       have HC4_0 := Aside0.mk hl4_0
       clear hi4_0 hl4_0
       replace p4 := eq_true p4
       replace q4 := eq_true q4
       go_wp2_with (first | ((with_reducible refine gate_callee (f := 40) rfl ?_); refine goesL_ (some 16) rfl rfl Tryz.func40 (by kernel_rfl) rfl #[.slice A4_0 (rd_L3 l0 x11_1).length c4_0] rfl (by (try simp only [List.map_toArray, List.map_cons, List.map_nil]); first | done | rfl | (simp only [List.length_drop, List.length_take]; rfl)) ?_; (with_reducible refine (code_Valid.calls k1 _ _ (rd_L3 l0 x11_1) false _ ?side1 ?side2 A5.out).mono ?_); (case side1 => repeat (first | exact (Kd.C_below HR4_0.out HB.out) | (with_reducible refine Kd.C_alloc ?_ _) | (with_reducible refine Kd.C_drewN ?_ _) | (with_reducible refine Kd.C_drew ?_))); (case side2 => exact HC4_0.out); rintro e w24 ⟨rfl, hb⟩; refine ⟨_, rfl, ?_⟩; have n0_ := Aside0.mk (Kd.R_below (by (with_reducible repeat (first | apply Kd.R_alloc | apply Kd.R_drewN | apply Kd.R_drew)); exact HO_4.out) hb); have n1_ := Aside0.mk (below_step (by repeat (first | (with_reducible first | exact HB.out | apply below_alloc | apply pw_below_drewN | apply below_drew1) | exact HB.out)) hb); clear HO_4; clear HB; have HO_4 := n0_; have HB := n1_; clear n0_ n1_; (try clear hb); (try clear hb2); (try clear hk); (try clear hi)))
       go_ret2
       exact ⟨by first | rfl | (simp [errW_none, errW_some] <;> rfl) | (simp [*, errW_none, errW_some] <;> rfl), by repeat (first | (with_reducible first | exact HB.out | apply below_alloc | apply pw_below_drewN | apply below_drew1) | exact HB.out)⟩
     ·rw [if_neg c4] at H
      exact absurd H (by simp)
    ·rw [if_neg c3] at H
     exact absurd H (by simp)
   ·rw [if_neg c2] at H
    have c2b0 : decide (x11_1 < (l0.length : Int)) = false := decide_eq_false c2
    clear c2
    by_cases c25 : x4_1.length < 140737488355328
    ·rw [if_pos c25] at H
     have LMc25 := Aside0.mk c25
     clear c25
     obtain ⟨y1, hy1⟩ : ∃ y_ : List Int, y_ = (x4_1 ++ [48]) := ⟨_, rfl⟩
     replace H : (some (strOfNums y1, 0)) = some (r1, r2) := by first | (rw [hy1]; with_reducible exact H) | (have H2_ := (Option.bind_some _ _).symm.trans H; rw [hy1]; with_reducible exact H2_) | (have H2_ := (Option.bind_some _ _).symm.trans H; with_reducible exact H2_) | with_reducible exact H | (rw [hy1]; exact H) | exact H
     have Ny1 := Aside0.mk hy1
     clear hy1
     simp only [Option.some.injEq, Prod.mk.injEq] at H
     obtain ⟨rfl, rfl⟩ := H
     go_wp2_with (first | ((with_reducible refine gate_builtin (b := .append) (xs := #[.tmp 35, .tmp 36]) rfl ?_); at_builtin; refine Kd.R_append (Kd.int .u8) (w0 := w) w.heap.size rfl (.tmp 35) (.tmp 36) 94 5 (.int .u8 0) 1 rfl Tryz.underlying94 info5 rfl (by decide) (by omega) u4 x4_1 48 [.int .u8 48] (fun _ => True) (fun _ => False) rfl rfl ?aP (fun _ hk => hk.elim) ?aF ?aO ?aB ?aS ?aL ?_; (case aP => exact rfl); (case aB => exact (by repeat (first | (with_reducible first | exact HB.out | apply below_alloc | apply pw_below_drewN | apply below_drew1) | exact HB.out))); (case aF => exact (fun _ _ => trivial)); (case aO => exact (by (with_reducible repeat (first | apply Kd.R_alloc | apply Kd.R_drewN | apply Kd.R_drew)); exact HO_4.out)); (case aS => exact (below_size (by repeat (first | (with_reducible first | exact HB.out | apply below_alloc | apply pw_below_drewN | apply below_drew1) | exact HB.out)))); (case aL => have := LMc25.out; first | omega | (simp only [lit_size, List.size_toArray, List.length_cons, List.length_nil]; omega)); intro v2 w26 ho hb hg hat; rw [← Ny1.out] at ho; have n0_ := Aside0.mk (hb); have n1_ := Aside0.mk (ho); clear HB; clear HO_4; have HB := n0_; have HO3 := n1_; clear n0_ n1_; clear ho hb hg hat; have hcv27 := own_string (P := Tryz.prog) Tryz.underlying94 Tryz.underlying5 Tryz.underlying9 (Kd.own_of_R HO3.out)))
     go_ret2
     exact ⟨by first | rfl | (simp [errW_none, errW_some] <;> rfl) | (simp [*, errW_none, errW_some] <;> rfl), by repeat (first | (with_reducible first | exact HB.out | apply below_alloc | apply pw_below_drewN | apply below_drew1) | exact HB.out)⟩
    ·rw [if_neg c25] at H
     exact absurd H (by simp)
end Go.Proofs.YtocoamgbpoommaaGreatDoor.C
end
