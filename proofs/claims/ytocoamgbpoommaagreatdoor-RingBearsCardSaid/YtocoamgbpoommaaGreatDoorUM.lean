/- Texts of this claim, together: what the functions return, and what they say in plain words. -/
import Derived.Test.YtocoamgbpoommaaGreatDoorUC
import Derived.Lib.AtoiAll
import Derived.Lib.AtoiErrMem
import Derived.Test.YtocoamgbpoommaaGreatDoorUB
import Derived.Test.YtocoamgbpoommaaGreatDoorUF
import Derived.Laws.EntriesVeiled
section
namespace Go.Proofs.YtocoamgbpoommaaGreatDoor.C
open Go.RowKit Go.Proofs.YtocoamgbpoommaaGreatDoorW.PrintWords Go.Proofs.YtocoamgbpoommaaGreatDoorW.PrintLast Go.Proofs.YtocoamgbpoommaaGreatDoorW.PrintMore
set_option linter.unusedVariables false
set_option linter.unusedSimpArgs false
def integerV (l : List UInt8) : Int × Bool :=
  match Lib.atoiAll l with
  | .ok v => (v, Lib.itoa v == l)
  | .range => (Lib.atoiSat l, false)
  | _ => (0, false)
def code_integer.f (a0 : ByteArray) : Option (Int × Bool) := if a0.size ≤ 281474976710656 then some (integerV a0.data.toList) else none
theorem atoiAll_range {l : List UInt8} {v : Int} (h : Lib.atoiAll l = .ok v) : -9223372036854775808 ≤ v ∧ v ≤ 9223372036854775807 := by
  unfold Lib.atoiAll at h
  split at h
  · cases h
  · dsimp only at h
    split at h
    · cases h
    · cases h
    · split at h
      · cases h
      · split at h
        · cases h
        · injection h with h
          subst h
          split <;> omega
theorem atoi_ok (s : ByteArray) (hmax : s.size ≤ 9223372036854775806) (v : Int) (h : Lib.atoiAll s.data.toList = .ok v) (w : World) :
    Calls Tryz.prog 112 #[.string s] w fun e w' => e = .returned (.tuple #[.int .i64 v, .nilIface]) ∧ Below w.heap.size w w' := by
  refine (Tryz.strconv_Atoi_ok s hmax v h w).mono ?_
  rintro e w1 ⟨rfl, hw⟩
  refine ⟨rfl, ?_⟩
  rcases hw with rfl | ⟨t, rfl⟩
  · exact Below.refl _ _
  · exact Lib.bytesWorld_below _ _ _
set_option maxHeartbeats 1000000 in
set_option maxRecDepth 100000 in
theorem code_integer.calls (a0 : ByteArray) (r1 : Int) (r2 : Bool) (w : World) (hL : LaidW w) (h : code_integer.f a0 = some (r1, r2)) :
    Calls Tryz.prog 90 #[.string a0] w fun e w' => e = .returned (.tuple #[.int .i64 r1, .bool r2]) ∧ Below w.heap.size w w' := by
  unfold code_integer.f at h
  split at h
  case isFalse => cases h
  case isTrue hs =>
  have h := Option.some.inj h
  unfold integerV at h
  cases hA : Lib.atoiAll a0.data.toList with
  | ok v =>
    rw [hA] at h
    simp only [Prod.mk.injEq] at h
    obtain ⟨rfl, rfl⟩ := h
    have HA := Aside0.mk hA
    have hlo : Aside0 (-9223372036854775808 ≤ v ∧ v ≤ 9223372036854775807) := ⟨atoiAll_range hA⟩
    clear hA
    have HL := Aside0.mk hL
    clear hL
    have hfin : (Lib.itoa v == a0.toList) = (Lib.itoa v == a0.data.toList) := by rw [ByteArray.toList_eq]
    have HF := Aside0.mk hfin
    clear hfin
    have hI : ∀ W : World, LaidW W → Calls Tryz.prog 113 #[.int .i64 v] W fun e w' => e = .returned (.string ⟨(Lib.itoa v).toArray⟩) ∧ Below W.heap.size W w' := fun W hW =>
      strconv_Itoa.calls v _ W hW (by unfold strconv_Itoa.f; rw [if_pos hlo.out])
    have HI := Aside0.mk hI
    clear hI
    go_enter Tryz.func90, Tryz.ntmps90
    go_wp2_with (go_at_call 112; refine (atoi_ok a0 (by omega) v HA.out _).mono ?_; rintro e w1 ⟨rfl, hb⟩; have HB := Aside0.mk hb; clear hb)
    refine (HI.out _ (LaidW.below HL.out HB.out)).mono ?_
    rintro e w2 ⟨rfl, hb2⟩
    have HB2 := Aside0.mk hb2
    clear hb2
    go_wp2
    go_ret2
    exact ⟨by show Ending.returned (.tuple #[.int .i64 v, .bool (Lib.itoa v == a0.toList)]) = _; rw [HF.out], below_step HB.out HB2.out⟩
  | range =>
    rw [hA] at h
    simp only [Prod.mk.injEq] at h
    obtain ⟨rfl, rfl⟩ := h
    obtain ⟨tp, p, hv⟩ := hL.rg
    have HV := Aside0.mk hv
    have HA := Aside0.mk hA
    clear hv hA
    go_enter Tryz.func90, Tryz.ntmps90
    go_wp2_with (go_at_call 112; refine (Tryz.strconv_Atoi_range a0 hs HA.out _ _ HV.out (Or.inr ⟨tp, p, rfl⟩)).mono ?_; rintro e w1 ⟨N, rfl, hN, hc, hb⟩)
    go_ret2
    exact ⟨rfl, ‹Below _ _ _›⟩
  | _ =>
    rw [hA] at h
    simp only [Prod.mk.injEq] at h
    obtain ⟨rfl, rfl⟩ := h
    obtain ⟨tp, p, hv⟩ := hL.sy
    have HV := Aside0.mk hv
    have HA := Aside0.mk hA
    clear hv hA
    go_enter Tryz.func90, Tryz.ntmps90
    go_wp2_with (go_at_call 112; refine (Tryz.strconv_Atoi_syntax a0 hs (fun v e => by rw [HA.out] at e; cases e) (fun e => by rw [HA.out] at e; cases e) _ _ HV.out (Or.inr ⟨tp, p, rfl⟩)).mono ?_; rintro e w1 ⟨N, rfl, hN, hc, hb⟩)
    go_ret2
    exact ⟨rfl, ‹Below _ _ _›⟩
end Go.Proofs.YtocoamgbpoommaaGreatDoor.C
end
section
namespace Go.Proofs.YtocoamgbpoommaaGreatDoor.C
open Go.RowKit Go.Proofs.YtocoamgbpoommaaGreatDoorW.PrintWords Go.Proofs.YtocoamgbpoommaaGreatDoorW.PrintLast Go.Proofs.YtocoamgbpoommaaGreatDoorW.PrintMore
attribute [local go_sem] max2_int min2_int max_two min_two max_three min_three max_four min_four
set_option linter.unusedVariables false
set_option linter.unusedSimpArgs false
def code_names.f  : Option (List ByteArray) := some (([(⟨#[115, 101, 116]⟩ : ByteArray), (⟨#[109, 111, 118, 101]⟩ : ByteArray), (⟨#[99, 111, 110, 115]⟩ : ByteArray), (⟨#[104, 101, 97, 100]⟩ : ByteArray), (⟨#[116, 97, 105, 108]⟩ : ByteArray), (⟨#[106, 117, 109, 112]⟩ : ByteArray)] : List ByteArray))
set_option maxHeartbeats 8000000 in
set_option maxRecDepth 100000 in
theorem code_names.calls  (r : List ByteArray) (w : World) (h : code_names.f  = some r) :
  Calls Tryz.prog 89 #[] w fun e w' => ∃ v0_ : Value, e = .returned (v0_) ∧ Kd.R Kd.string 9 w' w.heap.size (fun _ => True) v0_ r ∧ Below w.heap.size w w' := by
 have HB := Aside0.mk (Below.refl w.heap.size w)
 have H : (some (([(⟨#[115, 101, 116]⟩ : ByteArray), (⟨#[109, 111, 118, 101]⟩ : ByteArray), (⟨#[99, 111, 110, 115]⟩ : ByteArray), (⟨#[104, 101, 97, 100]⟩ : ByteArray), (⟨#[116, 97, 105, 108]⟩ : ByteArray), (⟨#[106, 117, 109, 112]⟩ : ByteArray)] : List ByteArray))) = some r := h
 clear h
 obtain ⟨y1, hy1⟩ : ∃ y_ : List ByteArray, y_ = (([(⟨#[115, 101, 116]⟩ : ByteArray), (⟨#[109, 111, 118, 101]⟩ : ByteArray), (⟨#[99, 111, 110, 115]⟩ : ByteArray), (⟨#[104, 101, 97, 100]⟩ : ByteArray), (⟨#[116, 97, 105, 108]⟩ : ByteArray), (⟨#[106, 117, 109, 112]⟩ : ByteArray)] : List ByteArray)) := ⟨_, rfl⟩
 replace H : (some y1) = some r := by first | (rw [hy1]; with_reducible exact H) | (have H2_ := (Option.bind_some _ _).symm.trans H; rw [hy1]; with_reducible exact H2_) | (have H2_ := (Option.bind_some _ _).symm.trans H; with_reducible exact H2_) | with_reducible exact H | (rw [hy1]; exact H) | exact H
 have Ny1 := Aside0.mk hy1
 clear hy1
 obtain rfl := Option.some.inj H
 go_enter Tryz.func89, Tryz.ntmps89
 go_wp2_with (first | ((with_reducible refine gate_dst (N := 1) rfl ?_); refine Kd.R_lit Kd.string _ 9 ?hg (N := 1) ?hd (xs := ([(⟨#[115, 101, 116]⟩ : ByteArray), (⟨#[109, 111, 118, 101]⟩ : ByteArray), (⟨#[99, 111, 110, 115]⟩ : ByteArray), (⟨#[104, 101, 97, 100]⟩ : ByteArray), (⟨#[116, 97, 105, 108]⟩ : ByteArray), (⟨#[106, 117, 109, 112]⟩ : ByteArray)] : List ByteArray)) (inner := [.string (⟨#[115, 101, 116]⟩ : ByteArray), .string (⟨#[109, 111, 118, 101]⟩ : ByteArray), .string (⟨#[99, 111, 110, 115]⟩ : ByteArray), .string (⟨#[104, 101, 97, 100]⟩ : ByteArray), .string (⟨#[116, 97, 105, 108]⟩ : ByteArray), .string (⟨#[106, 117, 109, 112]⟩ : ByteArray)]) (ok := fun _ => True) (okp := fun _ => True) ?hr ?hp (fun _ hk => hk) trivial (Below.refl _ _) (Nat.le_refl _) (by simp) ?_; (case hd => rfl); (case hg => rfl); (case hr => first | (go_simp; done) | (go_simp; rfl)); (case hp => exact (Reps.one (show Kd.M Kd.string _ _ _ (⟨#[115, 101, 116]⟩ : ByteArray) [.string (⟨#[115, 101, 116]⟩ : ByteArray)] from rfl) (Reps.one (show Kd.M Kd.string _ _ _ (⟨#[109, 111, 118, 101]⟩ : ByteArray) [.string (⟨#[109, 111, 118, 101]⟩ : ByteArray)] from rfl) (Reps.one (show Kd.M Kd.string _ _ _ (⟨#[99, 111, 110, 115]⟩ : ByteArray) [.string (⟨#[99, 111, 110, 115]⟩ : ByteArray)] from rfl) (Reps.one (show Kd.M Kd.string _ _ _ (⟨#[104, 101, 97, 100]⟩ : ByteArray) [.string (⟨#[104, 101, 97, 100]⟩ : ByteArray)] from rfl) (Reps.one (show Kd.M Kd.string _ _ _ (⟨#[116, 97, 105, 108]⟩ : ByteArray) [.string (⟨#[116, 97, 105, 108]⟩ : ByteArray)] from rfl) (Reps.one (show Kd.M Kd.string _ _ _ (⟨#[106, 117, 109, 112]⟩ : ByteArray) [.string (⟨#[106, 117, 109, 112]⟩ : ByteArray)] from rfl) (Reps.none _ _)))))))); intro v2 w1 ho2 hb hg_ hnew_; clear hg_ hnew_; (first | rw [← Ny1.out] at ho2 | (simp only [Int.reduceToNat] at ho2; rw [← Ny1.out] at ho2)); have n0_ := Aside0.mk (Kd.R_lower ho2 (below_size (by repeat (first | (with_reducible first | exact HB.out | apply below_alloc | apply pw_below_drewN | apply below_drew1) | exact HB.out)))); have n1_ := Aside0.mk (below_step (by repeat (first | (with_reducible first | exact HB.out | apply below_alloc | apply pw_below_drewN | apply below_drew1) | exact HB.out)) hb); clear HB; have HO3 := n0_; have HB := n1_; clear n0_ n1_; clear hb ho2))
 go_ret
 exact ⟨_, by first | rfl | (simp [errW_none, errW_some] <;> rfl) | (simp [*, errW_none, errW_some] <;> rfl), by (with_reducible repeat (first | apply Kd.R_alloc | apply Kd.R_drewN | apply Kd.R_drew)); exact HO3.out, by repeat (first | (with_reducible first | exact HB.out | apply below_alloc | apply pw_below_drewN | apply below_drew1) | exact HB.out)⟩
end Go.Proofs.YtocoamgbpoommaaGreatDoor.C
end
section
namespace Go.Proofs.YtocoamgbpoommaaGreatDoor.C
open Go.RowKit Go.Proofs.YtocoamgbpoommaaGreatDoorW.PrintWords Go.Proofs.YtocoamgbpoommaaGreatDoorW.PrintLast Go.Proofs.YtocoamgbpoommaaGreatDoorW.PrintMore
set_option linter.unusedVariables false
set_option linter.unusedSimpArgs false
def eachInt : List ByteArray → List Int → Option (Option (List Int))
  | [], p => some (some p)
  | s :: l, p => (code_integer.f s).bind fun r => if r.2 = true then (if p.length < 17592186040000 then eachInt l (p ++ [r.1]) else none) else some none
theorem drop_row (l : List ByteArray) (i : Nat) (h : i < l.length) : l.drop i = rdOf ByteArray.empty l (i : Int) :: l.drop (i + 1) := by
  rw [List.drop_eq_getElem_cons h]
  simp [rdOf, h]
set_option maxHeartbeats 2000000 in
set_option maxRecDepth 100000 in
theorem eachInt_calls (A0 : Option Addr) (c0 : Nat) (l : List ByteArray) (q : Option (List Int)) (w : World) (hL : LaidW w) (hr0 : Kd.C Kd.string w A0 l.length l) (hc0 : l.length ≤ c0) (h : eachInt l [] = some q) :
    Calls Tryz.prog 91 #[.slice A0 l.length c0, .func (.func 90) #[] #[]] w fun e w' => ∃ v0_ : Value, e = .returned (.tuple #[v0_, .bool q.isSome]) ∧ Kd.R (Kd.int .i64) 3 w' w.heap.size (fun _ => True) v0_ (q.getD []) ∧ Below w.heap.size w w' := by
  have HLW := Aside0.mk hL
  have HR0 := Aside0.mk hr0
  have hlm : l.length ≤ 9223372036854775807 := hr0.2.1
  have HQ : Aside0 (eachInt (l.drop 0) [] = some q) := ⟨h⟩
  clear hr0 hL h hc0
  go_enter Tryz.func91, Tryz.ntmps91
  go_wp2
  go_loopg [6, 13] l.length (fun kq v6 v13 wr => ∃ (i : Nat) (p : List Int), v13 = .int .i64 i ∧ Aside0 (i ≤ l.length ∧ kq + i = l.length) ∧ Aside0 (eachInt (l.drop i) p = some q) ∧ Aside0 (Kd.R (Kd.int .i64) 3 wr w.heap.size (fun _ => True) v6 p) ∧ Aside0 (Below w.heap.size w wr))
  case atStart => exact ⟨0, [], rfl, ⟨Nat.zero_le _, rfl⟩, HQ, ⟨Kd.R_nil _ _ _ _ _⟩, ⟨Below.refl _ _⟩⟩
  case round =>
    clear HQ
    obtain ⟨i, p, rfl, HI, HA, HR, HB⟩ := hrel
    have H := HA.out
    clear HA
    by_cases hlt : (i : Int) < (l.length : Int)
    · rw [drop_row l i (by omega), eachInt] at H
      obtain ⟨⟨n, ok⟩, hn, H⟩ := Option.bind_eq_some_iff.1 H
      dsimp only at H
      have HN := Aside0.mk H
      have HV := Aside0.mk hn
      clear H hn
      cases gk with
      | zero => exact absurd HI.out.2 (by omega)
      | succ k2 =>
      obtain ⟨ad, eA, hx0⟩ := Kd.at_string HR0.out (i : Int) (by omega) hlt
      subst eA
      rw [Int.toNat_natCast] at hx0
      replace hx0 := (HB.out.cell (World.block_lt_of_cell? w _ hx0)).trans hx0
      generalize rdOf ByteArray.empty l (i : Int) = s at *
      go_wp2_with fail
      refine (code_integer.calls s n ok _ (HLW.out.below HB.out) HV.out).mono ?_
      rintro e w2 ⟨rfl, hb2⟩
      have HR2 := Aside0.mk (Kd.R_below HR.out hb2)
      have HB2 := Aside0.mk (below_step HB.out hb2)
      clear hb2 HR HB hx0
      cases ok with
      | false =>
        obtain rfl : q = none := by have := HN.out; simpa using this.symm
        clear HN
        go_wp2
        go_ret2
        exact ⟨_, rfl, Kd.R_nil _ _ _ _ _, HB2.out⟩
      | true =>
        by_cases hpl : p.length < 17592186040000
        · have HN3 : Aside0 (eachInt (l.drop (i + 1)) (p ++ [n]) = some q) := ⟨by have := HN.out; simpa [hpl] using this⟩
          have HPL := Aside0.mk hpl
          clear HN hpl
          go_wp2_with (at_builtin; refine Kd.R_append (Kd.int .i64) (w0 := w) w.heap.size rfl _ _ 128 3 (.int .i64 0) 8 rfl Tryz.underlying128 info3 rfl (by decide) (by omega) _ p n [.int .i64 n] (fun _ => True) (fun _ => False) rfl rfl rfl (fun _ hk => hk.elim) ?aF ?aO ?aB ?aS ?aL ?_)
          case aF => exact fun _ _ => trivial
          case aO => exact HR2.out
          case aB => exact HB2.out
          case aS => exact HB2.out.size
          case aL => have := HPL.out; omega
          intro v6 w6 ho6 hb6 hg6 hat6
          have HO6 := Aside0.mk ho6
          have HB6 := Aside0.mk hb6
          clear ho6 hb6 hg6 hat6 HPL HR2 HB2
          go_wp2
          go_roundg k2
          case measure => omega
          case rel => exact ⟨i + 1, _, by go_num, ⟨by have := HI.out; omega⟩, HN3, HO6, HB6⟩
        · exact absurd HN.out (by simp [hpl])
    · have hd : l.drop i = [] := List.drop_eq_nil_of_le (by omega)
      rw [hd, eachInt] at H
      obtain rfl := Option.some.inj H
      clear H
      have t1 : decide ((i : Int) < (l.length : Int)) = false := decide_eq_false hlt
      have t2 : decide (i < l.length) = false := decide_eq_false (by omega)
      clear hlt hd
      go_wp2
      go_ret2
      exact ⟨_, rfl, HR.out, HB.out⟩
end Go.Proofs.YtocoamgbpoommaaGreatDoor.C
end
section
namespace Go.Proofs.YtocoamgbpoommaaGreatDoor.C
open Go.RowKit Go.Proofs.YtocoamgbpoommaaGreatDoorW.PrintWords Go.Proofs.YtocoamgbpoommaaGreatDoorW.PrintLast Go.Proofs.YtocoamgbpoommaaGreatDoorW.PrintMore
set_option linter.unusedVariables false
set_option linter.unusedSimpArgs false
def wordNames : List ByteArray := [(⟨#[115, 101, 116]⟩ : ByteArray), (⟨#[109, 111, 118, 101]⟩ : ByteArray), (⟨#[99, 111, 110, 115]⟩ : ByteArray), (⟨#[104, 101, 97, 100]⟩ : ByteArray), (⟨#[116, 97, 105, 108]⟩ : ByteArray), (⟨#[106, 117, 109, 112]⟩ : ByteArray)]
def zI : S72 := ⟨0, 0, 0, 0, ⟨#[]⟩⟩
def instrAt (l : List ByteArray) (op : Int) : Option (S72 × Bool) :=
  if op = 0 then (code_integer.f (rdOf ByteArray.empty l 1)).bind fun r => some (⟨0, r.1, 0, 0, rdOf ByteArray.empty l 2⟩, r.2 && ((l.length : Int) == 3))
  else (eachInt (l.drop 1) []).bind fun q => match q with
    | none => some (zI, false)
    | some m => if op = 2 then (if m.length = 3 then some (⟨op, rd m 0, rd m 1, rd m 2, ⟨#[]⟩⟩, true) else some (zI, false)) else if m.length = 2 then some (⟨op, rd m 0, rd m 1, 0, ⟨#[]⟩⟩, true) else some (zI, false)
def instrGo (l : List ByteArray) : List ByteArray → Int → Option (S72 × Bool)
  | [], _ => some (zI, false)
  | nm :: ns, op => if (rdOf ByteArray.empty l 0).toList = nm.toList then instrAt l op else instrGo l ns (op + 1)
def code_instr.f (s : ByteArray) : Option (S72 × Bool) :=
  (strings_Split.f s ⟨#[32]⟩).bind fun l => if l.length < 3 then some (zI, false) else instrGo l wordNames 0
theorem put5 {W : World} {g : Nat} {v0 v1 v2 v3 v4 : Value} (h : W.heap[g]? = some (.cells #[v0, v1, v2, v3, v4] 72 (0, 0))) (a0 a1 a2 a3 a4 : Value) :
    (((((W.setCell ⟨g, 0, none⟩ a0).setCell ⟨g, 1, none⟩ a1).setCell ⟨g, 2, none⟩ a2).setCell ⟨g, 3, none⟩ a3).setCell ⟨g, 4, none⟩ a4).heap[g]? = some (.cells #[a0, a1, a2, a3, a4] 72 (0, 0)) :=
  blk_set (blk_set (blk_set (blk_set (blk_set h 0 a0) 1 a1) 2 a2) 3 a3) 4 a4
theorem drew_cell (W : World) (p : Addr) : W.drew.cell? p = W.cell? p := rfl
theorem far5 {W : World} {g g3 : Nat} {cs : Array Value} {t : TypeId} (hk : W.heap[g3]? = some (.cells cs t (0, 0))) (hne : g3 ≠ g) (a0 a1 a2 a3 a4 : Value) (j : Nat) {v : Value} (h : W.cell? ⟨g3, j, none⟩ = some v) :
    (((((W.setCell ⟨g, 0, none⟩ a0).setCell ⟨g, 1, none⟩ a1).setCell ⟨g, 2, none⟩ a2).setCell ⟨g, 3, none⟩ a3).setCell ⟨g, 4, none⟩ a4).drew.cell? ⟨g3, j, none⟩ = some v := by
  have b : (((((W.setCell ⟨g, 0, none⟩ a0).setCell ⟨g, 1, none⟩ a1).setCell ⟨g, 2, none⟩ a2).setCell ⟨g, 3, none⟩ a3).setCell ⟨g, 4, none⟩ a4).heap[g3]? = some (.cells cs t (0, 0)) :=
    blk_far (blk_far (blk_far (blk_far (blk_far hk hne a0) hne a1) hne a2) hne a3) hne a4
  rw [drew_cell, Lib.cell_of_heap b j, ← Lib.cell_of_heap hk j]
  exact h
theorem put5_below {w W : World} {g B : Nat} (hB : B ≤ g) (h : Below B w W) (a0 a1 a2 a3 a4 : Value) :
    Below B w (((((W.setCell ⟨g, 0, none⟩ a0).setCell ⟨g, 1, none⟩ a1).setCell ⟨g, 2, none⟩ a2).setCell ⟨g, 3, none⟩ a3).setCell ⟨g, 4, none⟩ a4) :=
  ((((h.setCell (p := ⟨g, 0, none⟩) hB a0).setCell (p := ⟨g, 1, none⟩) hB a1).setCell (p := ⟨g, 2, none⟩) hB a2).setCell (p := ⟨g, 3, none⟩) hB a3).setCell (p := ⟨g, 4, none⟩) hB a4
set_option maxHeartbeats 4000000 in
set_option maxRecDepth 100000 in
theorem code_instr.calls (s : ByteArray) (x : S72) (ok : Bool) (w : World) (hL : LaidW w) (h : code_instr.f s = some (x, ok)) :
    Calls Tryz.prog 75 #[.string s] w fun e w' => e = .returned (.tuple #[.agg #[.int .i64 x.f0, .int .i64 x.f1, .int .i64 x.f2, .int .i64 x.f3, .string x.f4], .bool ok]) ∧ Below w.heap.size w w' := by
  unfold code_instr.f at h
  obtain ⟨l, hl, h⟩ := Option.bind_eq_some_iff.1 h
  have HLW := Aside0.mk hL
  have HSP := Aside0.mk hl
  clear hL hl
  by_cases h3 : l.length < 3
  · rw [if_pos h3] at h
    simp only [Option.some.injEq, Prod.mk.injEq] at h
    obtain ⟨rfl, rfl⟩ := h
    have t1 : decide ((l.length : Int) < 3) = true := decide_eq_true (by omega)
    have t2 : decide (l.length < 3) = true := decide_eq_true h3
    clear h3
    go_enter Tryz.func75, Tryz.ntmps75
    go_wp2_with fail
    refine (strings_Split.calls s _ l _ (HLW.out.alloc _) HSP.out).mono ?_
    rintro e w1 ⟨v1, rfl, hr1, hb1⟩
    obtain ⟨A1, cap1, rfl, hc1, hC1⟩ := Kd.R_reads hr1
    have HZ1 := Aside0.mk ((hb1.block _ (by simp)).trans (heap_alloc_new w (.cells #[.int .i64 0, .int .i64 0, .int .i64 0, .int .i64 0, .string ⟨#[]⟩] 72)))
    have HB1 := Aside0.mk (below_step (below_alloc (Below.refl w.heap.size w) _) hb1)
    clear hr1 hb1 hC1 hc1
    have z0 : w1.cell? ⟨w.heap.size, 0, none⟩ = some (.int .i64 0) := by rw [Lib.cell_of_heap HZ1.out]; rfl
    have z1 : w1.cell? ⟨w.heap.size, 1, none⟩ = some (.int .i64 0) := by rw [Lib.cell_of_heap HZ1.out]; rfl
    have z2 : w1.cell? ⟨w.heap.size, 2, none⟩ = some (.int .i64 0) := by rw [Lib.cell_of_heap HZ1.out]; rfl
    have z3 : w1.cell? ⟨w.heap.size, 3, none⟩ = some (.int .i64 0) := by rw [Lib.cell_of_heap HZ1.out]; rfl
    have z4 : w1.cell? ⟨w.heap.size, 4, none⟩ = some (.string ⟨#[]⟩) := by rw [Lib.cell_of_heap HZ1.out]; rfl
    have f0 := Lib.frozen_of_heap HZ1.out 0
    have f1 := Lib.frozen_of_heap HZ1.out 1
    have f2 := Lib.frozen_of_heap HZ1.out 2
    have f3 := Lib.frozen_of_heap HZ1.out 3
    have f4 := Lib.frozen_of_heap HZ1.out 4
    go_wp2
    have b5 := put5 HZ1.out (.int .i64 0) (.int .i64 0) (.int .i64 0) (.int .i64 0) (.string ⟨#[]⟩)
    have d0 := (Lib.cell_of_heap b5 0).trans rfl
    have d1 := (Lib.cell_of_heap b5 1).trans rfl
    have d2 := (Lib.cell_of_heap b5 2).trans rfl
    have d3 := (Lib.cell_of_heap b5 3).trans rfl
    have d4 := (Lib.cell_of_heap b5 4).trans rfl
    exact bodyPost_ret (v := .tuple #[.agg #[.int .i64 0, .int .i64 0, .int .i64 0, .int .i64 0, .string ⟨#[]⟩], .bool false]) (by simp [results, Tryz.results75, go_sem, d0, d1, d2, d3, d4]) rfl ⟨rfl, put5_below (Nat.le_refl _) HB1.out _ _ _ _ _⟩
  · rw [if_neg h3] at h
    have HG : Aside0 (instrGo l (wordNames.drop 0) ((0 : Nat) : Int) = some (x, ok)) := ⟨h⟩
    have t1 : decide ((l.length : Int) < 3) = false := decide_eq_false (by omega)
    have t2 : decide (l.length < 3) = false := decide_eq_false h3
    have hl3 : 3 ≤ l.length := by omega
    have hb0 : decide ((0 : Int) < (l.length : Int)) = true := decide_eq_true (by omega)
    have hb1' : decide ((1 : Int) < (l.length : Int)) = true := decide_eq_true (by omega)
    have hb2' : decide ((2 : Int) < (l.length : Int)) = true := decide_eq_true (by omega)
    clear h h3
    go_enter Tryz.func75, Tryz.ntmps75
    go_wp2_with fail
    refine (strings_Split.calls s _ l _ (HLW.out.alloc _) HSP.out).mono ?_
    rintro e w1 ⟨v1, rfl, hr1, hb1⟩
    obtain ⟨A1, cap1, rfl, hc1, hC1⟩ := Kd.R_reads hr1
    have HZ1 := Aside0.mk ((hb1.block _ (by simp)).trans (heap_alloc_new w (.cells #[.int .i64 0, .int .i64 0, .int .i64 0, .int .i64 0, .string ⟨#[]⟩] 72)))
    have HB1 := Aside0.mk (below_step (below_alloc (Below.refl w.heap.size w) _) hb1)
    have HC1 := Aside0.mk hC1
    have HCC := Aside0.mk hc1
    clear hr1 hb1 hC1 hc1 HSP
    go_wp2_with fail
    refine (code_names.calls wordNames _ rfl).mono ?_
    rintro e w2 ⟨v2, rfl, hr2, hb2⟩
    obtain ⟨A2, c2, rfl, hc2, hC2⟩ := Kd.R_reads hr2
    have HZ2 := Aside0.mk ((hb2.block _ (Array.getElem?_eq_some_iff.1 HZ1.out).1).trans HZ1.out)
    have HB2 := Aside0.mk (below_step HB1.out hb2)
    have HC12 := Aside0.mk (Kd.C_below HC1.out hb2)
    have HC2 := Aside0.mk hC2
    clear hr2 hb2 hC2 hc2
    go_wp2
    obtain ⟨ad, eA, hx0⟩ := Kd.at_string HC12.out 0 (by omega) (by omega)
    subst eA
    obtain ⟨ad', e1, hx1⟩ := Kd.at_string HC12.out 1 (by omega) (by omega)
    obtain rfl := Option.some.inj e1
    obtain ⟨ad', e2, hx2⟩ := Kd.at_string HC12.out 2 (by omega) (by omega)
    obtain rfl := Option.some.inj e2
    clear e1 e2
    rw [show ad.add ((0 : Int).toNat) = ad from rfl] at hx0
    rw [show ad.add ((1 : Int).toNat) = ⟨ad.block, ad.off + 1, none⟩ from rfl] at hx1
    rw [show ad.add ((2 : Int).toNat) = ⟨ad.block, ad.off + 2, none⟩ from rfl] at hx2
    go_loopg [19] 6 (fun kq v19 wr => ∃ i : Nat, v19 = .int .i64 i ∧ Aside0 (i ≤ 6 ∧ kq + i = 6) ∧ Aside0 (instrGo l (wordNames.drop i) i = some (x, ok)) ∧ wr = w2)
    case atStart => exact ⟨0, rfl, ⟨by omega, rfl⟩, HG, rfl⟩
    case round =>
      clear HG
      obtain ⟨i, rfl, HI, HA, rfl⟩ := hrel
      have H := HA.out
      clear HA
      by_cases hlt : i < 6
      · rw [drop_row wordNames i (by rw [show wordNames.length = 6 from rfl]; exact hlt), instrGo] at H
        cases gk with
        | zero => exact absurd HI.out.2 (by omega)
        | succ k2 =>
        obtain ⟨ad2, eA2, hy⟩ := Kd.at_string HC2.out (i : Int) (by omega) (by rw [show wordNames.length = 6 from rfl]; omega)
        subst eA2
        rw [Int.toNat_natCast] at hy
        have b1 : decide ((i : Int) < ((wordNames.length : Nat) : Int)) = true := decide_eq_true (by rw [show wordNames.length = 6 from rfl]; omega)
        have b2 : decide (i < wordNames.length) = true := decide_eq_true (by rw [show wordNames.length = 6 from rfl]; omega)
        obtain ⟨s0, hs0⟩ : ∃ s0, s0 = rdOf ByteArray.empty l 0 := ⟨_, rfl⟩
        obtain ⟨nm, hnm⟩ : ∃ nm, nm = rdOf ByteArray.empty wordNames (i : Int) := ⟨_, rfl⟩
        rw [← hs0] at hx0 H
        rw [← hnm] at hy H
        clear hs0 hnm
        by_cases heq : s0.toList = nm.toList
        · rw [if_pos heq] at H
          have q0 : (s0.toList == nm.toList) = true := beq_iff_eq.2 heq
          have q1 : (s0.toList != nm.toList) = false := by simp [heq]
          by_cases hi0 : i = 0
          · subst hi0
            rw [show ad2.add 0 = ad2 from rfl] at hy
            rw [instrAt, if_pos (by rfl)] at H
            obtain ⟨⟨n, o1⟩, hn, H⟩ := Option.bind_eq_some_iff.1 H
            simp only [Option.some.injEq, Prod.mk.injEq] at H
            obtain ⟨ex, eo⟩ := H
            have HV := Aside0.mk hn
            have HEX := Aside0.mk ex
            have HEO := Aside0.mk eo
            obtain ⟨s1, hs1⟩ : ∃ s1, s1 = rdOf ByteArray.empty l 1 := ⟨_, rfl⟩
            obtain ⟨s2, hs2⟩ : ∃ s2, s2 = rdOf ByteArray.empty l 2 := ⟨_, rfl⟩
            rw [← hs1] at hx1 HV
            rw [← hs2] at hx2 HEX
            clear hs1 hs2 hn ex eo heq
            go_wp2_with fail
            refine (code_integer.calls s1 n o1 _ (HLW.out.below HB2.out) HV.out).mono ?_
            rintro e w3 ⟨rfl, hb3⟩
            have hx23 := (hb3.cell (World.block_lt_of_cell? _ _ hx2)).trans hx2
            have HZ3 := Aside0.mk ((hb3.block _ (Array.getElem?_eq_some_iff.1 HZ2.out).1).trans HZ2.out)
            have HB3 := Aside0.mk (below_step HB2.out hb3)
            clear hb3 hx0 hx1 hx2 hy
            have z0 : w3.cell? ⟨w.heap.size, 0, none⟩ = some (.int .i64 0) := by rw [Lib.cell_of_heap HZ3.out]; rfl
            have z1 : w3.cell? ⟨w.heap.size, 1, none⟩ = some (.int .i64 0) := by rw [Lib.cell_of_heap HZ3.out]; rfl
            have z2 : w3.cell? ⟨w.heap.size, 2, none⟩ = some (.int .i64 0) := by rw [Lib.cell_of_heap HZ3.out]; rfl
            have z3 : w3.cell? ⟨w.heap.size, 3, none⟩ = some (.int .i64 0) := by rw [Lib.cell_of_heap HZ3.out]; rfl
            have z4 : w3.cell? ⟨w.heap.size, 4, none⟩ = some (.string ⟨#[]⟩) := by rw [Lib.cell_of_heap HZ3.out]; rfl
            have f0 := Lib.frozen_of_heap HZ3.out 0
            have f1 := Lib.frozen_of_heap HZ3.out 1
            have f2 := Lib.frozen_of_heap HZ3.out 2
            have f3 := Lib.frozen_of_heap HZ3.out 3
            have f4 := Lib.frozen_of_heap HZ3.out 4
            cases o1 with
            | false =>
              have ex := HEX.out
              have eo := HEO.out
              subst ex eo
              go_wp2
              have b5 := put5 HZ3.out (.int .i64 0) (.int .i64 n) (.int .i64 0) (.int .i64 0) (.string s2)
              have d0 := (Lib.cell_of_heap b5 0).trans rfl
              have d1 := (Lib.cell_of_heap b5 1).trans rfl
              have d2 := (Lib.cell_of_heap b5 2).trans rfl
              have d3 := (Lib.cell_of_heap b5 3).trans rfl
              have d4 := (Lib.cell_of_heap b5 4).trans rfl
              exact bodyPost_ret (v := .tuple #[.agg #[.int .i64 0, .int .i64 n, .int .i64 0, .int .i64 0, .string s2], .bool false]) (by simp [results, Tryz.results75, go_sem, d0, d1, d2, d3, d4]) rfl ⟨rfl, put5_below (Nat.le_refl _) HB3.out _ _ _ _ _⟩
            | true =>
              have ex := HEX.out
              have eo := HEO.out
              subst ex eo
              go_wp2
              have b5 := put5 HZ3.out (.int .i64 0) (.int .i64 n) (.int .i64 0) (.int .i64 0) (.string s2)
              have d0 := (Lib.cell_of_heap b5 0).trans rfl
              have d1 := (Lib.cell_of_heap b5 1).trans rfl
              have d2 := (Lib.cell_of_heap b5 2).trans rfl
              have d3 := (Lib.cell_of_heap b5 3).trans rfl
              have d4 := (Lib.cell_of_heap b5 4).trans rfl
              exact bodyPost_ret (v := .tuple #[.agg #[.int .i64 0, .int .i64 n, .int .i64 0, .int .i64 0, .string s2], .bool ((l.length : Int) == 3)]) (by simp [results, Tryz.results75, go_sem, d0, d1, d2, d3, d4]) rfl ⟨rfl, put5_below (Nat.le_refl _) HB3.out _ _ _ _ _⟩
          · have hne0 : ((i : Int) == 0) = false := beq_eq_false_iff_ne.2 (by omega)
            have hne0n : (i == 0) = false := beq_eq_false_iff_ne.2 hi0
            rw [instrAt, if_neg (by omega)] at H
            obtain ⟨q, hq, H⟩ := Option.bind_eq_some_iff.1 H
            have HQ := Aside0.mk hq
            have HH := Aside0.mk H
            have bc1 : decide (1 ≤ l.length) = true := decide_eq_true (by omega)
            have bc2 : decide ((1 : Int) ≤ (l.length : Int)) = true := decide_eq_true (by omega)
            have bc3 : decide ((l.length : Int) ≤ (cap1 : Int)) = true := decide_eq_true (by have := HCC.out; omega)
            have bc4 : (cap1 = 1) = False := eq_false (by have := HCC.out; omega)
            have hCD := Kd.C_drop (m := 1) (c := cap1) HC12.out (by omega) HCC.out
            rw [if_neg (by have := HCC.out; omega)] at hCD
            have hE := eachInt_calls (some ⟨ad.block, ad.off + 1, none⟩) (cap1 - 1) (l.drop 1) q wr (HLW.out.below HB2.out) hCD (by rw [List.length_drop]; have := HCC.out; omega) HQ.out
            rw [List.length_drop] at hE
            have HE := Aside0.mk hE
            clear hq H heq hCD hE
            go_wp2_with fail
            refine HE.out.mono ?_
            rintro e w3 ⟨v3, rfl, hr3, hb3⟩
            have HZ3 := Aside0.mk ((hb3.block _ (Array.getElem?_eq_some_iff.1 HZ2.out).1).trans HZ2.out)
            have HB3 := Aside0.mk (below_step HB2.out hb3)
            clear hb3 hx0 hx1 hx2 hy HE
            have z0 : w3.cell? ⟨w.heap.size, 0, none⟩ = some (.int .i64 0) := by rw [Lib.cell_of_heap HZ3.out]; rfl
            have z1 : w3.cell? ⟨w.heap.size, 1, none⟩ = some (.int .i64 0) := by rw [Lib.cell_of_heap HZ3.out]; rfl
            have z2 : w3.cell? ⟨w.heap.size, 2, none⟩ = some (.int .i64 0) := by rw [Lib.cell_of_heap HZ3.out]; rfl
            have z3 : w3.cell? ⟨w.heap.size, 3, none⟩ = some (.int .i64 0) := by rw [Lib.cell_of_heap HZ3.out]; rfl
            have z4 : w3.cell? ⟨w.heap.size, 4, none⟩ = some (.string ⟨#[]⟩) := by rw [Lib.cell_of_heap HZ3.out]; rfl
            have f0 := Lib.frozen_of_heap HZ3.out 0
            have f1 := Lib.frozen_of_heap HZ3.out 1
            have f2 := Lib.frozen_of_heap HZ3.out 2
            have f3 := Lib.frozen_of_heap HZ3.out 3
            have f4 := Lib.frozen_of_heap HZ3.out 4
            cases q with
            | none =>
              have hh := HH.out
              simp only [Option.some.injEq, Prod.mk.injEq] at hh
              obtain ⟨ex, eo⟩ := hh
              subst ex eo
              obtain ⟨A3, c3, rfl, hc3, hC3⟩ := Kd.R_reads hr3
              clear hr3 hc3 hC3
              by_cases hi2 : i = 2
              · subst hi2
                go_wp2
                have b5 := put5 HZ3.out (.int .i64 0) (.int .i64 0) (.int .i64 0) (.int .i64 0) (.string ⟨#[]⟩)
                have d0 := (Lib.cell_of_heap b5 0).trans rfl
                have d1 := (Lib.cell_of_heap b5 1).trans rfl
                have d2 := (Lib.cell_of_heap b5 2).trans rfl
                have d3 := (Lib.cell_of_heap b5 3).trans rfl
                have d4 := (Lib.cell_of_heap b5 4).trans rfl
                exact bodyPost_ret (v := .tuple #[.agg #[.int .i64 0, .int .i64 0, .int .i64 0, .int .i64 0, .string ⟨#[]⟩], .bool false]) (by simp [results, Tryz.results75, go_sem, d0, d1, d2, d3, d4]) rfl ⟨rfl, put5_below (Nat.le_refl _) HB3.out _ _ _ _ _⟩
              · have hne2 : ((i : Int) == 2) = false := beq_eq_false_iff_ne.2 (by omega)
                have hne2n : (i == 2) = false := beq_eq_false_iff_ne.2 hi2
                go_wp2
                have b5 := put5 HZ3.out (.int .i64 0) (.int .i64 0) (.int .i64 0) (.int .i64 0) (.string ⟨#[]⟩)
                have d0 := (Lib.cell_of_heap b5 0).trans rfl
                have d1 := (Lib.cell_of_heap b5 1).trans rfl
                have d2 := (Lib.cell_of_heap b5 2).trans rfl
                have d3 := (Lib.cell_of_heap b5 3).trans rfl
                have d4 := (Lib.cell_of_heap b5 4).trans rfl
                exact bodyPost_ret (v := .tuple #[.agg #[.int .i64 0, .int .i64 0, .int .i64 0, .int .i64 0, .string ⟨#[]⟩], .bool false]) (by simp [results, Tryz.results75, go_sem, d0, d1, d2, d3, d4]) rfl ⟨rfl, put5_below (Nat.le_refl _) HB3.out _ _ _ _ _⟩
            | some m =>
              obtain ⟨A3, c3, rfl, hc3, hC3⟩ := Kd.R_reads hr3
              have HH2 := HH.out
              dsimp only [Option.getD_some] at hC3 HH2
              by_cases hi2 : i = 2
              · subst hi2
                rw [if_pos (by rfl)] at HH2
                have hr3' := Aside0.mk hr3
                clear hr3
                by_cases hm3 : m.length = 3
                · rw [if_pos hm3] at HH2
                  simp only [Option.some.injEq, Prod.mk.injEq] at HH2
                  obtain ⟨ex, eo⟩ := HH2
                  obtain ⟨g3, c3', e3, hg3, hlt3, cs3, hk3⟩ := Kd.R_form hr3'.out (by dsimp only [Option.getD_some]; omega)
                  injection e3 with e3A
                  subst e3A
                  have HK3 := Aside0.mk hk3
                  have HNE : Aside0 (g3 ≠ w.heap.size) := ⟨by have := (Array.getElem?_eq_some_iff.1 HZ2.out).1; omega⟩
                  have hm0 : w3.cell? ⟨g3, 0, none⟩ = some (.int .i64 (rd m 0)) := by
                    obtain ⟨ad', e', hx⟩ := Kd.at_int hC3 0 (by omega) (by omega)
                    obtain rfl := Option.some.inj e'
                    exact hx
                  have hm1 : w3.cell? ⟨g3, 1, none⟩ = some (.int .i64 (rd m 1)) := by
                    obtain ⟨ad', e', hx⟩ := Kd.at_int hC3 1 (by omega) (by omega)
                    obtain rfl := Option.some.inj e'
                    exact hx
                  have hm2 : w3.cell? ⟨g3, 2, none⟩ = some (.int .i64 (rd m 2)) := by
                    obtain ⟨ad', e', hx⟩ := Kd.at_int hC3 2 (by omega) (by omega)
                    obtain rfl := Option.some.inj e'
                    exact hx
                  have lb0 : ((m.length : Int) != 3) = false := by simp [hm3]
                  have lb1 : (m.length != 3) = false := by simp [hm3]
                  have HEX := Aside0.mk ex
                  have HEO := Aside0.mk eo
                  have HM3 := Aside0.mk hm3
                  clear HH ex eo hC3 hm3 hc3 hk3 hg3 hr3'
                  go_wp2_with fail
                  have hm3 := HM3.out
                  go_region_held3 (fun w' => w'.cell? ⟨g3, 0, none⟩ = some (.int .i64 (rd m 0)) ∧ w'.cell? ⟨g3, 1, none⟩ = some (.int .i64 (rd m 1)) ∧ w'.cell? ⟨g3, 2, none⟩ = some (.int .i64 (rd m 2)))
                    (first
                      | ((try simp only [drew_cell]); with_reducible exact ⟨hm0, hm1, hm2⟩)
                      | (refine ⟨?_, ?_, ?_⟩ <;> with_reducible first | exact far5 HK3.out HNE.out _ _ _ _ _ 0 hm0 | exact far5 HK3.out HNE.out _ _ _ _ _ 1 hm1 | exact far5 HK3.out HNE.out _ _ _ _ _ 2 hm2)
                      | go_keep)
                    (fail)
                  have ex := HEX.out
                  have eo := HEO.out
                  subst ex eo
                  go_wp2
                  have b5 := put5 HZ3.out (.int .i64 2) (.int .i64 (rd m 0)) (.int .i64 (rd m 1)) (.int .i64 (rd m 2)) (.string ⟨#[]⟩)
                  have d0 := (Lib.cell_of_heap b5 0).trans rfl
                  have d1 := (Lib.cell_of_heap b5 1).trans rfl
                  have d2 := (Lib.cell_of_heap b5 2).trans rfl
                  have d3 := (Lib.cell_of_heap b5 3).trans rfl
                  have d4 := (Lib.cell_of_heap b5 4).trans rfl
                  exact bodyPost_ret (v := .tuple #[.agg #[.int .i64 2, .int .i64 (rd m 0), .int .i64 (rd m 1), .int .i64 (rd m 2), .string ⟨#[]⟩], .bool true]) (by simp [results, Tryz.results75, go_sem, drew_cell, d0, d1, d2, d3, d4]) rfl ⟨rfl, (put5_below (Nat.le_refl _) HB3.out _ _ _ _ _).drew⟩
                · rw [if_neg hm3] at HH2
                  simp only [Option.some.injEq, Prod.mk.injEq] at HH2
                  obtain ⟨ex, eo⟩ := HH2
                  subst ex eo
                  have lb0 : ((m.length : Int) != 3) = true := bne_iff_ne.2 (by omega)
                  have lb1 : (m.length != 3) = true := bne_iff_ne.2 hm3
                  clear hc3 hC3
                  go_wp2
                  have b5 := put5 HZ3.out (.int .i64 0) (.int .i64 0) (.int .i64 0) (.int .i64 0) (.string ⟨#[]⟩)
                  have d0 := (Lib.cell_of_heap b5 0).trans rfl
                  have d1 := (Lib.cell_of_heap b5 1).trans rfl
                  have d2 := (Lib.cell_of_heap b5 2).trans rfl
                  have d3 := (Lib.cell_of_heap b5 3).trans rfl
                  have d4 := (Lib.cell_of_heap b5 4).trans rfl
                  exact bodyPost_ret (v := .tuple #[.agg #[.int .i64 0, .int .i64 0, .int .i64 0, .int .i64 0, .string ⟨#[]⟩], .bool false]) (by simp [results, Tryz.results75, go_sem, d0, d1, d2, d3, d4]) rfl ⟨rfl, put5_below (Nat.le_refl _) HB3.out _ _ _ _ _⟩
              · have hne2 : ((i : Int) == 2) = false := beq_eq_false_iff_ne.2 (by omega)
                have hne2n : (i == 2) = false := beq_eq_false_iff_ne.2 hi2
                rw [if_neg (by omega)] at HH2
                have hr3' := Aside0.mk hr3
                clear hr3
                by_cases hm3 : m.length = 2
                · rw [if_pos hm3] at HH2
                  simp only [Option.some.injEq, Prod.mk.injEq] at HH2
                  obtain ⟨ex, eo⟩ := HH2
                  obtain ⟨g3, c3', e3, hg3, hlt3, cs3, hk3⟩ := Kd.R_form hr3'.out (by dsimp only [Option.getD_some]; omega)
                  injection e3 with e3A
                  subst e3A
                  have HK3 := Aside0.mk hk3
                  have HNE : Aside0 (g3 ≠ w.heap.size) := ⟨by have := (Array.getElem?_eq_some_iff.1 HZ2.out).1; omega⟩
                  have hm0 : w3.cell? ⟨g3, 0, none⟩ = some (.int .i64 (rd m 0)) := by
                    obtain ⟨ad', e', hx⟩ := Kd.at_int hC3 0 (by omega) (by omega)
                    obtain rfl := Option.some.inj e'
                    exact hx
                  have hm1 : w3.cell? ⟨g3, 1, none⟩ = some (.int .i64 (rd m 1)) := by
                    obtain ⟨ad', e', hx⟩ := Kd.at_int hC3 1 (by omega) (by omega)
                    obtain rfl := Option.some.inj e'
                    exact hx
                  have lb0 : ((m.length : Int) != 2) = false := by simp [hm3]
                  have lb1 : (m.length != 2) = false := by simp [hm3]
                  have HEX := Aside0.mk ex
                  have HEO := Aside0.mk eo
                  have HM3 := Aside0.mk hm3
                  clear HH ex eo hC3 hm3 hc3 hk3 hg3 hr3'
                  go_wp2_with fail
                  have hm3 := HM3.out
                  go_region_held3 (fun w' => w'.cell? ⟨g3, 0, none⟩ = some (.int .i64 (rd m 0)) ∧ w'.cell? ⟨g3, 1, none⟩ = some (.int .i64 (rd m 1)))
                    (first
                      | ((try simp only [drew_cell]); with_reducible exact ⟨hm0, hm1⟩)
                      | (refine ⟨?_, ?_⟩ <;> with_reducible first | exact far5 HK3.out HNE.out _ _ _ _ _ 0 hm0 | exact far5 HK3.out HNE.out _ _ _ _ _ 1 hm1)
                      | go_keep)
                    (fail)
                  have ex := HEX.out
                  have eo := HEO.out
                  subst ex eo
                  go_wp2
                  have b5 := put5 HZ3.out (.int .i64 (i : Int)) (.int .i64 (rd m 0)) (.int .i64 (rd m 1)) (.int .i64 0) (.string ⟨#[]⟩)
                  have d0 := (Lib.cell_of_heap b5 0).trans rfl
                  have d1 := (Lib.cell_of_heap b5 1).trans rfl
                  have d2 := (Lib.cell_of_heap b5 2).trans rfl
                  have d3 := (Lib.cell_of_heap b5 3).trans rfl
                  have d4 := (Lib.cell_of_heap b5 4).trans rfl
                  exact bodyPost_ret (v := .tuple #[.agg #[.int .i64 (i : Int), .int .i64 (rd m 0), .int .i64 (rd m 1), .int .i64 0, .string ⟨#[]⟩], .bool true]) (by simp [results, Tryz.results75, go_sem, drew_cell, d0, d1, d2, d3, d4]) rfl ⟨rfl, (put5_below (Nat.le_refl _) HB3.out _ _ _ _ _).drew⟩
                · rw [if_neg hm3] at HH2
                  simp only [Option.some.injEq, Prod.mk.injEq] at HH2
                  obtain ⟨ex, eo⟩ := HH2
                  subst ex eo
                  have lb0 : ((m.length : Int) != 2) = true := bne_iff_ne.2 (by omega)
                  have lb1 : (m.length != 2) = true := bne_iff_ne.2 hm3
                  clear hc3 hC3
                  go_wp2
                  have b5 := put5 HZ3.out (.int .i64 0) (.int .i64 0) (.int .i64 0) (.int .i64 0) (.string ⟨#[]⟩)
                  have d0 := (Lib.cell_of_heap b5 0).trans rfl
                  have d1 := (Lib.cell_of_heap b5 1).trans rfl
                  have d2 := (Lib.cell_of_heap b5 2).trans rfl
                  have d3 := (Lib.cell_of_heap b5 3).trans rfl
                  have d4 := (Lib.cell_of_heap b5 4).trans rfl
                  exact bodyPost_ret (v := .tuple #[.agg #[.int .i64 0, .int .i64 0, .int .i64 0, .int .i64 0, .string ⟨#[]⟩], .bool false]) (by simp [results, Tryz.results75, go_sem, d0, d1, d2, d3, d4]) rfl ⟨rfl, put5_below (Nat.le_refl _) HB3.out _ _ _ _ _⟩
        · rw [if_neg heq] at H
          have HN : Aside0 (instrGo l (wordNames.drop (i + 1)) ((i + 1 : Nat) : Int) = some (x, ok)) := ⟨H⟩
          have q0 : (s0.toList == nm.toList) = false := beq_eq_false_iff_ne.2 heq
          have q1 : (s0.toList != nm.toList) = true := bne_iff_ne.2 heq
          clear H heq
          go_wp2
          go_roundg k2
          case measure => omega
          case rel => exact ⟨i + 1, by go_num, ⟨by have := HI.out; omega⟩, HN, rfl⟩
      · have hd : wordNames.drop i = [] := List.drop_eq_nil_of_le (by rw [show wordNames.length = 6 from rfl]; omega)
        rw [hd, instrGo] at H
        simp only [Option.some.injEq, Prod.mk.injEq] at H
        obtain ⟨ex, eo⟩ := H
        subst ex eo
        have b1 : decide ((i : Int) < ((wordNames.length : Nat) : Int)) = false := decide_eq_false (by rw [show wordNames.length = 6 from rfl]; omega)
        have b2 : decide (i < wordNames.length) = false := decide_eq_false (by rw [show wordNames.length = 6 from rfl]; omega)
        clear hlt hd
        have z0 : wr.cell? ⟨w.heap.size, 0, none⟩ = some (.int .i64 0) := by rw [Lib.cell_of_heap HZ2.out]; rfl
        have z1 : wr.cell? ⟨w.heap.size, 1, none⟩ = some (.int .i64 0) := by rw [Lib.cell_of_heap HZ2.out]; rfl
        have z2 : wr.cell? ⟨w.heap.size, 2, none⟩ = some (.int .i64 0) := by rw [Lib.cell_of_heap HZ2.out]; rfl
        have z3 : wr.cell? ⟨w.heap.size, 3, none⟩ = some (.int .i64 0) := by rw [Lib.cell_of_heap HZ2.out]; rfl
        have z4 : wr.cell? ⟨w.heap.size, 4, none⟩ = some (.string ⟨#[]⟩) := by rw [Lib.cell_of_heap HZ2.out]; rfl
        have f0 := Lib.frozen_of_heap HZ2.out 0
        have f1 := Lib.frozen_of_heap HZ2.out 1
        have f2 := Lib.frozen_of_heap HZ2.out 2
        have f3 := Lib.frozen_of_heap HZ2.out 3
        have f4 := Lib.frozen_of_heap HZ2.out 4
        go_wp2
        have b5 := put5 HZ2.out (.int .i64 0) (.int .i64 0) (.int .i64 0) (.int .i64 0) (.string ⟨#[]⟩)
        have d0 := (Lib.cell_of_heap b5 0).trans rfl
        have d1 := (Lib.cell_of_heap b5 1).trans rfl
        have d2 := (Lib.cell_of_heap b5 2).trans rfl
        have d3 := (Lib.cell_of_heap b5 3).trans rfl
        have d4 := (Lib.cell_of_heap b5 4).trans rfl
        exact bodyPost_ret (v := .tuple #[.agg #[.int .i64 0, .int .i64 0, .int .i64 0, .int .i64 0, .string ⟨#[]⟩], .bool false]) (by simp [results, Tryz.results75, go_sem, d0, d1, d2, d3, d4]) rfl ⟨rfl, put5_below (Nat.le_refl _) HB2.out _ _ _ _ _⟩
end Go.Proofs.YtocoamgbpoommaaGreatDoor.C
end
