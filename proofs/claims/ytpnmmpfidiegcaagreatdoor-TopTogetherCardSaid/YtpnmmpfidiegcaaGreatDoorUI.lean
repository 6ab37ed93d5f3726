/- Texts of this claim, together: what the functions return, and what they say in plain words. -/
import Derived.Test.YtpnmmpfidiegcaaGreatDoorUC
import Derived.Laws.EntriesVeiled
import Derived.Test.YtpnmmpfidiegcaaGreatDoorUF
import Derived.Test.YtpnmmpfidiegcaaGreatDoorUG
import Derived.Test.YtpnmmpfidiegcaaGreatDoorUH
import Derived.Test.YtpnmmpfidiegcaaGreatDoorUB
import Derived.Lib.Repeat
section
namespace Go.Proofs.YtpnmmpfidiegcaaGreatDoor.C
open Go.RowKit Go.Proofs.YtpnmmpfidiegcaaGreatDoorW.PrintWords Go.Proofs.YtpnmmpfidiegcaaGreatDoorW.PrintLast Go.Proofs.YtpnmmpfidiegcaaGreatDoorW.PrintMore
set_option linter.unusedVariables false
set_option linter.unusedSimpArgs false
def fput (op : Int) : Nat := if op = 0 then 56 else if op = 2 then 60 else if op = 5 then 62 else 77
def fget (op : Int) : Nat := if op = 0 then 57 else if op = 2 then 61 else if op = 5 then 63 else 78
set_option maxHeartbeats 1000000 in
set_option maxRecDepth 100000 in
theorem regs_calls (w : World) : Calls Tryz.prog 64 #[] w fun e w' => e = .returned (.agg #[.func (.func 77) #[] #[], .func (.func 78) #[] #[]]) ∧ Below w.heap.size w w' := by
  go_enter Tryz.func64, Tryz.ntmps64
  go_wp2
  exact bodyPost_ret (v := .agg #[.func (.func 77) #[] #[], .func (.func 78) #[] #[]]) (by simp [results, Tryz.results64, go_sem]) rfl ⟨rfl, (Below.refl _ _).alloc (Nat.le_refl _) _⟩
set_option maxHeartbeats 1000000 in
set_option maxRecDepth 100000 in
theorem fields_set (op : Int) (w : World) (t0 : (op == 0) = true) : Calls Tryz.prog 44 #[.int .i64 op] w fun e w' => e = .returned (.agg #[.func (.func 56) #[] #[], .func (.func 57) #[] #[]]) ∧ Below w.heap.size w w' := by
  go_enter Tryz.func44, Tryz.ntmps44
  go_wp2
  exact bodyPost_ret (v := .agg #[.func (.func 56) #[] #[], .func (.func 57) #[] #[]]) (by simp [results, Tryz.results44, go_sem]) rfl ⟨rfl, (Below.refl _ _).alloc (Nat.le_refl _) _⟩
set_option maxHeartbeats 1000000 in
set_option maxRecDepth 100000 in
theorem fields_cons (op : Int) (w : World) (t0 : (op == 0) = false) (t2 : (op == 2) = true) : Calls Tryz.prog 44 #[.int .i64 op] w fun e w' => e = .returned (.agg #[.func (.func 60) #[] #[], .func (.func 61) #[] #[]]) ∧ Below w.heap.size w w' := by
  go_enter Tryz.func44, Tryz.ntmps44
  go_wp2
  exact bodyPost_ret (v := .agg #[.func (.func 60) #[] #[], .func (.func 61) #[] #[]]) (by simp [results, Tryz.results44, go_sem]) rfl ⟨rfl, (Below.refl _ _).alloc (Nat.le_refl _) _⟩
set_option maxHeartbeats 1000000 in
set_option maxRecDepth 100000 in
theorem fields_jump (op : Int) (w : World) (t0 : (op == 0) = false) (t2 : (op == 2) = false) (t5 : (op == 5) = true) : Calls Tryz.prog 44 #[.int .i64 op] w fun e w' => e = .returned (.agg #[.func (.func 62) #[] #[], .func (.func 63) #[] #[]]) ∧ Below w.heap.size w w' := by
  go_enter Tryz.func44, Tryz.ntmps44
  go_wp2
  exact bodyPost_ret (v := .agg #[.func (.func 62) #[] #[], .func (.func 63) #[] #[]]) (by simp [results, Tryz.results44, go_sem]) rfl ⟨rfl, (Below.refl _ _).alloc (Nat.le_refl _) _⟩
set_option maxHeartbeats 1000000 in
set_option maxRecDepth 100000 in
theorem fields_else (op : Int) (w : World) (t0 : (op == 0) = false) (t2 : (op == 2) = false) (t5 : (op == 5) = false) : Calls Tryz.prog 44 #[.int .i64 op] w fun e w' => e = .returned (.agg #[.func (.func 77) #[] #[], .func (.func 78) #[] #[]]) ∧ Below w.heap.size w w' := by
  go_enter Tryz.func44, Tryz.ntmps44
  go_wp2_with (go_at_call 64; refine (regs_calls _).mono ?_)
  rintro e w1 ⟨rfl, hb⟩
  have hbk : w1.heap[w.heap.size]? = some (.cells #[.nilFunc, .nilFunc] 92 (0, 0)) := (hb.block _ (by simp)).trans (heap_alloc_new w _)
  have c0 : w1.cell? ⟨w.heap.size, 0, none⟩ = some .nilFunc := by rw [Lib.cell_of_heap hbk]; rfl
  have c1 : w1.cell? ⟨w.heap.size, 1, none⟩ = some .nilFunc := by rw [Lib.cell_of_heap hbk]; rfl
  have f0 : w1.frozen? ⟨w.heap.size, 0, none⟩ = false := Lib.frozen_of_heap hbk 0
  have f1 : w1.frozen? ⟨w.heap.size, 1, none⟩ = false := Lib.frozen_of_heap hbk 1
  have HB := Aside0.mk hb
  have HK := Aside0.mk hbk
  clear hb hbk
  go_wp2
  have b1 := blk_set (blk_set HK.out 0 (.func (.func 77) #[] #[])) 1 (.func (.func 78) #[] #[])
  have d0 : ((w1.setCell ⟨w.heap.size, 0, none⟩ (.func (.func 77) #[] #[])).setCell ⟨w.heap.size, 1, none⟩ (.func (.func 78) #[] #[])).cell? ⟨w.heap.size, 0, none⟩ = some (.func (.func 77) #[] #[]) := by rw [Lib.cell_of_heap b1]; rfl
  have d1 : ((w1.setCell ⟨w.heap.size, 0, none⟩ (.func (.func 77) #[] #[])).setCell ⟨w.heap.size, 1, none⟩ (.func (.func 78) #[] #[])).cell? ⟨w.heap.size, 1, none⟩ = some (.func (.func 78) #[] #[]) := by rw [Lib.cell_of_heap b1]; rfl
  exact bodyPost_ret (v := .agg #[.func (.func 77) #[] #[], .func (.func 78) #[] #[]]) (by simp [results, Tryz.results44, go_sem, d0, d1]) rfl ⟨rfl, ((((Below.refl _ _).alloc (Nat.le_refl _) _).trans (HB.out.mono (by simp))).setCell (p := ⟨w.heap.size, 0, none⟩) (Nat.le_refl _) _).setCell (p := ⟨w.heap.size, 1, none⟩) (Nat.le_refl _) _⟩
theorem fields_calls (op : Int) (w : World) : Calls Tryz.prog 44 #[.int .i64 op] w fun e w' => e = .returned (.agg #[.func (.func (fput op)) #[] #[], .func (.func (fget op)) #[] #[]]) ∧ Below w.heap.size w w' := by
  unfold fput fget
  by_cases h0 : op = 0
  · rw [if_pos h0, if_pos h0]; exact fields_set op w (beq_iff_eq.2 h0)
  by_cases h2 : op = 2
  · rw [if_neg h0, if_neg h0, if_pos h2, if_pos h2]; exact fields_cons op w (beq_eq_false_iff_ne.2 h0) (beq_iff_eq.2 h2)
  by_cases h5 : op = 5
  · rw [if_neg h0, if_neg h0, if_neg h2, if_neg h2, if_pos h5, if_pos h5]; exact fields_jump op w (beq_eq_false_iff_ne.2 h0) (beq_eq_false_iff_ne.2 h2) (beq_iff_eq.2 h5)
  · rw [if_neg h0, if_neg h0, if_neg h2, if_neg h2, if_neg h5, if_neg h5]; exact fields_else op w (beq_eq_false_iff_ne.2 h0) (beq_eq_false_iff_ne.2 h2) (beq_eq_false_iff_ne.2 h5)
def putOf (x : S52) : Option ByteArray :=
  if x.f0 = 0 then code_fields_1.f x.f0 x.f1 x.f2 x.f3 x.f4 else if x.f0 = 2 then code_fields_3.f x.f0 x.f1 x.f2 x.f3 x.f4 else if x.f0 = 5 then code_fields_5.f x.f0 x.f1 x.f2 x.f3 x.f4 else code_regs_1.f x.f0 x.f1 x.f2 x.f3 x.f4
theorem put_calls (x : S52) (r : ByteArray) (w : World) (h : putOf x = some r) :
    Calls Tryz.prog (fput x.f0) #[.agg #[.int .i64 x.f0, .int .i64 x.f1, .int .i64 x.f2, .int .i64 x.f3, .string x.f4]] w fun e w' => e = .returned (.string r) ∧ Below w.heap.size w w' := by
  unfold putOf at h
  unfold fput
  split at h
  · rename_i h0; rw [if_pos h0]; exact code_fields_1.calls _ _ _ _ _ r w h
  rename_i h0
  split at h
  · rename_i h2; rw [if_neg h0, if_pos h2]; exact code_fields_3.calls _ _ _ _ _ r w h
  rename_i h2
  split at h
  · rename_i h5; rw [if_neg h0, if_neg h2, if_pos h5]; exact code_fields_5.calls _ _ _ _ _ r w h
  · rename_i h5; rw [if_neg h0, if_neg h2, if_neg h5]; exact code_regs_1.calls _ _ _ _ _ r w h
theorem run_field_put (a b : Nat) (W : World) : (Instr.field 92 (.agg #[.func (.func a) #[] #[], .func (.func b) #[] #[]]) 0).run Tryz.prog W = .ok (.func (.func a) #[] #[]) W := by kernel_rfl
end Go.Proofs.YtpnmmpfidiegcaaGreatDoor.C
end
section
namespace Go.Proofs.YtpnmmpfidiegcaaGreatDoor.C
open Go.RowKit Go.Proofs.YtpnmmpfidiegcaaGreatDoorW.PrintWords Go.Proofs.YtpnmmpfidiegcaaGreatDoorW.PrintLast Go.Proofs.YtpnmmpfidiegcaaGreatDoorW.PrintMore
set_option linter.unusedVariables false
set_option linter.unusedSimpArgs false
def code_Code.l : Nat → List S52 → Int → List UInt8 → Option (List UInt8)
  | 0, _, _, _ => none
  | k + 1, l0, i, bs => if i < (l0.length : Int) then (code_number.f (rd_T52 l0 i).f0).bind fun a => (putOf (rd_T52 l0 i)).bind fun b => if bs.length + (2 + a.size) + b.size ≤ 140737488355000 then code_Code.l k l0 (i + 1) (bs ++ ([49, 49] ++ a.data.toList) ++ b.data.toList) else none
    else if bs.length + 1 ≤ 140737488355328 then some (bs ++ [48]) else none
def code_Code.f (k : Nat) (l0 : List S52) : Option (ByteArray × Int) :=
  (code_Valid.f k l0).bind fun v => if v = true then (code_Code.l k l0 0 []).bind fun bs => if 2000000 < bs.length then some (⟨#[]⟩, 3) else some (⟨bs.toArray⟩, 0) else some (⟨#[]⟩, 1)
theorem isB_new (w : World) (B : Nat) (hB : B ≤ w.heap.size) : IsB B w.heap.size (Lib.byteCells []) (w.alloc (.cells #[.pointer none, .slice none 0 0] 83)) :=
  .inl ⟨hB, .slice none 0 0, heap_alloc_new w _, ⟨by simp [Lib.byteCells], .inl ⟨rfl, rfl⟩⟩, by simp [Value.ownBlock]⟩
theorem enters_put (op : Int) : ∀ args w, (callFunc (fput op) args).run Tryz.prog w = .ok (.enter (fput op) args) w := by
  intro args w
  unfold fput
  split
  · exact enters_of Tryz.func56 (by kernel_rfl) rfl args w
  split
  · exact enters_of Tryz.func60 (by kernel_rfl) rfl args w
  split
  · exact enters_of Tryz.func62 (by kernel_rfl) rfl args w
  · exact enters_of Tryz.func77 (by kernel_rfl) rfl args w
theorem isB_below {B b : Nat} {bs : List Value} {w w' : World} (h : IsB B b bs w) (hw : Below w.heap.size w w') : IsB B b bs w' := by
  have one : ∀ p, Lib.BuilderAtF 83 5 B b p bs w → Lib.BuilderAtF 83 5 B b p bs w' := by
    rintro p ⟨hB, v, hb, hown, hne⟩
    refine ⟨hB, v, (hw.block _ (Array.getElem?_eq_some_iff.1 hb).1).trans hb, ⟨hown.1, ?_⟩, hne⟩
    rcases hown.2 with hn | ⟨g, cap, cur, fz, hv, hbg, hg, rest⟩
    · exact .inl hn
    · exact .inr ⟨g, cap, cur, fz, hv, hbg, (hw.block _ (Array.getElem?_eq_some_iff.1 hg).1).trans hg, rest⟩
  exact h.elim (fun x => .inl (one _ x)) (fun x => .inr (one _ x))
set_option maxHeartbeats 2000000 in
set_option maxRecDepth 100000 in
theorem code_Code.calls (k : Nat) (A0 : Option Addr) (c0 : Nat) (l0 : List S52) (r1 : ByteArray) (r2 : Int) (w : World) (hr0 : Kd.C k52 w A0 l0.length l0) (hc0 : l0.length ≤ c0) (h : code_Code.f k l0 = some (r1, r2)) :
    Calls Tryz.prog 34 #[.slice A0 l0.length c0] w fun e w' => e = .returned (.tuple #[.string r1, .int .i64 r2]) ∧ Below w.heap.size w w' := by
  unfold code_Code.f at h
  obtain ⟨vl, hv, h⟩ := Option.bind_eq_some_iff.1 h
  have HR0 := Aside0.mk hr0
  have HC0 := Aside0.mk hc0
  have hlm : l0.length ≤ 9223372036854775807 := hr0.2.1
  clear hr0 hc0
  cases vl with
  | false =>
    simp only [Bool.false_eq_true, if_false, Option.some.injEq, Prod.mk.injEq] at h
    obtain ⟨e1, e2⟩ := h
    subst e1 e2
    go_enter Tryz.func34, Tryz.ntmps34
    go_wp2_with (go_at_call 23; refine (code_Valid.calls k _ _ l0 false _ HR0.out HC0.out hv).mono ?_; rintro e w1 ⟨rfl, hb1⟩)
    go_ret2
    exact ⟨rfl, ‹Below _ _ _›⟩
  | true =>
    simp only [if_true] at h
    obtain ⟨o, ho, h⟩ := Option.bind_eq_some_iff.1 h
    have HO := Aside0.mk ho
    have HH := Aside0.mk h
    have HV := Aside0.mk hv
    clear ho h hv
    go_enter Tryz.func34, Tryz.ntmps34
    go_wp2_with (go_at_call 23; refine (code_Valid.calls k _ _ l0 true _ HR0.out HC0.out HV.out).mono ?_; rintro e w1 ⟨rfl, hb1⟩)
    have HBB := Aside0.mk ‹Below w.heap.size w w1›
    clear hb1
    have HOB := Aside0.mk (isB_new w1 w.heap.size HBB.out.size)
    have HB0 := Aside0.mk (HBB.out.alloc HBB.out.size (.cells #[.pointer none, .slice none 0 0] 83))
    go_loopg [12] k (fun kq v12 wr => ∃ (i : Nat) (bs : List UInt8), v12 = .int .i64 i ∧ Aside0 (i ≤ l0.length) ∧ Aside0 (code_Code.l kq l0 i bs = some o) ∧ Aside0 (IsB w.heap.size w1.heap.size (Lib.byteCells bs) wr) ∧ Aside0 (Below w.heap.size w wr))
    case atStart => exact ⟨0, [], rfl, ⟨Nat.zero_le _⟩, HO, HOB, HB0⟩
    case round =>
      clear HO HOB HB0
      obtain ⟨i, bs, rfl, HI, HA, HOB, HB⟩ := hrel
      cases gk with
      | zero => exact absurd HA.out (by simp [code_Code.l])
      | succ k2 =>
        have H := HA.out
        clear HA
        rw [code_Code.l] at H
        by_cases hlt : (i : Int) < (l0.length : Int)
        · rw [if_pos hlt] at H
          obtain ⟨a, ha, H⟩ := Option.bind_eq_some_iff.1 H
          obtain ⟨b, hb, H⟩ := Option.bind_eq_some_iff.1 H
          by_cases hlim : bs.length + (2 + a.size) + b.size ≤ 140737488355000
          · rw [if_pos hlim] at H
            have HN := Aside0.mk H
            have HA := Aside0.mk ha
            have HP := Aside0.mk hb
            have HLM := Aside0.mk hlim
            clear H ha hb hlim
            have hi0 : 0 ≤ (i : Int) := by omega
            obtain ⟨ad, eA, hx0, hx1, hx2, hx3, hx4⟩ := at_T52 HR0.out (i : Int) hi0 hlt
            subst eA
            rw [Int.toNat_natCast] at hx0 hx1 hx2 hx3 hx4
            replace hx0 := (HB.out.cell (World.block_lt_of_cell? w _ hx0)).trans hx0
            replace hx1 := (HB.out.cell (World.block_lt_of_cell? w _ hx1)).trans hx1
            replace hx2 := (HB.out.cell (World.block_lt_of_cell? w _ hx2)).trans hx2
            replace hx3 := (HB.out.cell (World.block_lt_of_cell? w _ hx3)).trans hx3
            replace hx4 := (HB.out.cell (World.block_lt_of_cell? w _ hx4)).trans hx4
            generalize rd_T52 l0 (i : Int) = x at *
            go_wp2_with fail
            refine (code_number.calls _ a _ HA.out).mono ?_
            rintro e w2 ⟨rfl, hb2⟩
            have hX : w2.heap[wr.heap.size]? = some (.cells #[.int .i64 x.f0, .int .i64 x.f1, .int .i64 x.f2, .int .i64 x.f3, .string x.f4] 52 (0, 0)) := (hb2.block _ (by simp)).trans (heap_alloc_new wr _)
            have HOB2 := Aside0.mk (isB_below (Lib.IsBuilderF.alloc HOB.out _) hb2)
            have HB2 := Aside0.mk (below_step (below_alloc HB.out _) hb2)
            have hbX : w1.heap.size < wr.heap.size := by
              rcases HOB.out with h | h <;> exact (Array.getElem?_eq_some_iff.1 h.2.choose_spec.1).1
            have HX := Aside0.mk hX
            have HLEN : Aside0 ((Lib.byteCells bs).length + ((⟨#[49, 49]⟩ : ByteArray) ++ a).size ≤ 140737488355328) := ⟨by
              rw [Lib.byteCells_length, ByteArray.size_append, lit_size]; have := HLM.out; simp only [List.size_toArray, List.length_cons, List.length_nil]; omega⟩
            have hcat : (9223372036854775807 < 2 + a.size) = False := eq_false (by have := HLM.out; omega)
            clear hX hb2 hx0 hx1 hx2 hx3 hx4
            go_wp2_with fail
            refine (writeString_any w.heap.size w1.heap.size (Lib.byteCells bs) ((⟨#[49, 49]⟩ : ByteArray) ++ a) w2 HOB2.out HLEN.out HB2.out.size).mono ?_
            rintro e w3 ⟨rfl, h3, hb3, hk3⟩
            have hX3 : w3.heap[wr.heap.size]? = some (.cells #[.int .i64 x.f0, .int .i64 x.f1, .int .i64 x.f2, .int .i64 x.f3, .string x.f4] 52 (0, 0)) := hk3 _ _ HX.out (by intro e; injection e with e; omega) (by intro c fz e; injection e with _ e; revert e; decide)
            have y0 : w3.cell? ⟨wr.heap.size, 0, none⟩ = some (.int .i64 x.f0) := by rw [Lib.cell_of_heap hX3]; rfl
            have y1 : w3.cell? ⟨wr.heap.size, 1, none⟩ = some (.int .i64 x.f1) := by rw [Lib.cell_of_heap hX3]; rfl
            have y2 : w3.cell? ⟨wr.heap.size, 2, none⟩ = some (.int .i64 x.f2) := by rw [Lib.cell_of_heap hX3]; rfl
            have y3 : w3.cell? ⟨wr.heap.size, 3, none⟩ = some (.int .i64 x.f3) := by rw [Lib.cell_of_heap hX3]; rfl
            have y4 : w3.cell? ⟨wr.heap.size, 4, none⟩ = some (.string x.f4) := by rw [Lib.cell_of_heap hX3]; rfl
            have hXl : wr.heap.size < w3.heap.size := (Array.getElem?_eq_some_iff.1 hX3).1
            have HOB3 := Aside0.mk (show IsB w.heap.size w1.heap.size _ w3 from .inr h3)
            have HB3 := Aside0.mk (HB2.out.trans hb3)
            have hent := enters_put x.f0
            have hfld := run_field_put (fput x.f0) (fget x.f0)
            have HX3 := Aside0.mk hX3
            have HXL := Aside0.mk hXl
            have HLEN2 : Aside0 ((Lib.byteCells bs ++ Lib.strCells ((⟨#[49, 49]⟩ : ByteArray) ++ a)).length + b.size ≤ 140737488355328) := ⟨by
              rw [List.length_append, Lib.byteCells_length, Lib.strCells_length, ByteArray.size_append, lit_size]; have := HLM.out; simp only [List.size_toArray, List.length_cons, List.length_nil]; omega⟩
            clear hX3 h3 hb3 hk3 HX hcat
            go_wp2_with fail
            go_region_held3 (fun w' => w'.cell? ⟨wr.heap.size, 0, none⟩ = some (.int .i64 x.f0) ∧ w'.cell? ⟨wr.heap.size, 1, none⟩ = some (.int .i64 x.f1) ∧ w'.cell? ⟨wr.heap.size, 2, none⟩ = some (.int .i64 x.f2) ∧ w'.cell? ⟨wr.heap.size, 3, none⟩ = some (.int .i64 x.f3) ∧ w'.cell? ⟨wr.heap.size, 4, none⟩ = some (.string x.f4))
              (first
                | go_keep
                | (go_split_ands
                   refine ⟨?_, ?_, ?_, ?_, ?_⟩
                   · (rw [hb4.cell (by simp; omega)]; assumption)
                   · (rw [hb4.cell (by simp; omega)]; assumption)
                   · (rw [hb4.cell (by simp; omega)]; assumption)
                   · (rw [hb4.cell (by simp; omega)]; assumption)
                   · (rw [hb4.cell (by simp; omega)]; assumption))
                | (go_split_ands
                   refine ⟨?_, ?_, ?_, ?_, ?_⟩
                   · (rw [hb5.cell (by have := hb4.size; simp at this ⊢; omega)]; assumption)
                   · (rw [hb5.cell (by have := hb4.size; simp at this ⊢; omega)]; assumption)
                   · (rw [hb5.cell (by have := hb4.size; simp at this ⊢; omega)]; assumption)
                   · (rw [hb5.cell (by have := hb4.size; simp at this ⊢; omega)]; assumption)
                   · (rw [hb5.cell (by have := hb4.size; simp at this ⊢; omega)]; assumption))
                | (go_split_ands
                   refine ⟨?_, ?_, ?_, ?_, ?_⟩
                   · (rw [Lib.cell_of_heap hX6]; rfl)
                   · (rw [Lib.cell_of_heap hX6]; rfl)
                   · (rw [Lib.cell_of_heap hX6]; rfl)
                   · (rw [Lib.cell_of_heap hX6]; rfl)
                   · (rw [Lib.cell_of_heap hX6]; rfl)))
              (first
                | (go_simp; go_at_call 44; refine (fields_calls x.f0 _).mono ?_; rintro e w4 ⟨rfl, hb4⟩)
                | (go_simp; go_at_fn (fput x.f0); refine (put_calls x b _ HP.out).mono ?_; rintro e w5 ⟨rfl, hb5⟩)
                | (go_simp; go_at_call 42; refine (writeString_any w.heap.size w1.heap.size (Lib.byteCells bs ++ Lib.strCells ((⟨#[49, 49]⟩ : ByteArray) ++ a)) b _ (isB_below (isB_below (show IsB _ _ _ w3.drew from HOB3.out) hb4) hb5) HLEN2.out (Nat.le_trans HB3.out.size (Nat.le_trans hb4.size hb5.size))).mono ?_; rintro e w6 ⟨rfl, h6, hb6, hk6⟩; have hX6 : w6.heap[wr.heap.size]? = some (.cells #[.int .i64 x.f0, .int .i64 x.f1, .int .i64 x.f2, .int .i64 x.f3, .string x.f4] 52 (0, 0)) := hk6 _ _ ((hb5.block _ (Nat.lt_of_lt_of_le HXL.out hb4.size)).trans ((hb4.block _ HXL.out).trans HX3.out)) (by intro e; injection e with e; omega) (by intro c fz e; injection e with _ e; revert e; decide)))
            have HOB6 := Aside0.mk h6
            have HB6 := Aside0.mk (below_step (below_step (pw_below_drewN HB3.out 1) hb4) hb5)
            have HB7 : Aside0 (Below w.heap.size w w6) := ⟨HB6.out.trans hb6⟩
            clear h6 hb6 hk6 hX6 hb4 hb5
            go_wp2
            go_roundg k2
            case measure => omega
            case rel =>
              refine ⟨i + 1, bs ++ ([49, 49] ++ a.data.toList) ++ b.data.toList, by go_num, ⟨by omega⟩, HN, ⟨.inr ?_⟩, HB7⟩
              have e := HOB6.out
              rw [show Lib.byteCells (bs ++ ([49, 49] ++ a.data.toList) ++ b.data.toList) = Lib.byteCells bs ++ Lib.strCells ((⟨#[49, 49]⟩ : ByteArray) ++ a) ++ Lib.strCells b from by simp [Lib.byteCells, Lib.strCells]]
              exact e
          · rw [if_neg hlim] at H
            cases H
        · rw [if_neg hlt] at H
          by_cases hl9 : bs.length + 1 ≤ 140737488355328
          · rw [if_pos hl9] at H
            obtain rfl := Option.some.inj H
            have t1 : decide ((i : Int) < (l0.length : Int)) = false := decide_eq_false hlt
            have t2 : decide (i < l0.length) = false := decide_eq_false (by omega)
            have HL9 : Aside0 ((Lib.byteCells bs).length + 1 ≤ 140737488355328) := ⟨by rw [Lib.byteCells_length]; exact hl9⟩
            clear H hlt hl9
            go_wp2_with fail
            refine (writeByte_any w.heap.size w1.heap.size (Lib.byteCells bs) 48 _ HOB.out HL9.out HB.out.size).mono ?_
            rintro e w3 ⟨rfl, h3, hb3, hk3⟩
            have HOB3 : Aside0 (IsB w.heap.size w1.heap.size (Lib.byteCells (bs ++ [48])) w3) := ⟨.inr (by rw [show Lib.byteCells (bs ++ [48]) = Lib.byteCells bs ++ [.int .u8 48] from by simp [Lib.byteCells]]; exact h3)⟩
            have HB3 := Aside0.mk (HB.out.trans hb3)
            clear h3 hb3 hk3
            go_wp2_with fail
            refine (Tryz.Builder_Len_f w.heap.size w1.heap.size _ _ HOB3.out).mono ?_
            rintro e w4 ⟨rfl, rfl⟩
            rw [Lib.byteCells_length]
            by_cases hbig : 2000000 < (bs ++ [48]).length
            · have HH2 := HH.out
              rw [if_pos hbig] at HH2
              simp only [Option.some.injEq, Prod.mk.injEq] at HH2
              obtain ⟨e1, e2⟩ := HH2
              subst e1 e2
              have hb0 : decide (2000000 < ((bs ++ [48]).length : Int)) = true := decide_eq_true (by omega)
              have hb1 : decide (2000000 < (bs ++ [48]).length) = true := decide_eq_true hbig
              generalize (bs ++ [48]).length = n at *
              clear hbig
              go_wp2
              go_ret2
              exact ⟨rfl, HB3.out⟩
            · have HH2 := HH.out
              rw [if_neg hbig] at HH2
              simp only [Option.some.injEq, Prod.mk.injEq] at HH2
              obtain ⟨e1, e2⟩ := HH2
              subst e1 e2
              have hb0 : decide (2000000 < ((bs ++ [48]).length : Int)) = false := decide_eq_false (by omega)
              have hb1 : decide (2000000 < (bs ++ [48]).length) = false := decide_eq_false hbig
              have HS : Aside0 (Calls Tryz.prog 47 #[.pointer (some ⟨w1.heap.size, 0, none⟩)] w4 fun e w' => e = .returned (.string ⟨(bs ++ [48]).toArray⟩) ∧ Below w.heap.size w4 w') := ⟨(Tryz.Builder_String_any_k w.heap.size w1.heap.size _ _ HOB3.out HB3.out.size).mono fun e w' h => ⟨h.1, h.2.2.1⟩⟩
              clear hbig
              obtain ⟨rs, hrs⟩ : ∃ rs : ByteArray, rs = ⟨(bs ++ [48]).toArray⟩ := ⟨_, rfl⟩
              rw [← hrs] at HS
              have HRS := Aside0.mk hrs
              clear hrs
              generalize (bs ++ [48]).length = n at *
              go_wp2_with fail
              refine HS.out.mono ?_
              rintro e w5 ⟨rfl, hb5⟩
              have HB5 := Aside0.mk (HB3.out.trans hb5)
              clear hb5
              go_wp2
              go_ret2
              exact ⟨by have := HRS.out; subst this; rfl, HB5.out⟩
          · rw [if_neg hl9] at H
            cases H
end Go.Proofs.YtpnmmpfidiegcaaGreatDoor.C
end
section
namespace Go.Proofs.YtpnmmpfidiegcaaGreatDoor.Plain
open Go.Proofs.YtpnmmpfidiegcaaGreatDoor.C
open Go.RowKit Go.Proofs.YtpnmmpfidiegcaaGreatDoorW.PrintWords Go.Proofs.YtpnmmpfidiegcaaGreatDoorW.PrintLast Go.Proofs.YtpnmmpfidiegcaaGreatDoorW.PrintMore
set_option linter.unusedVariables false
set_option linter.unusedSimpArgs false
abbrev Ins := S52
abbrev bl (s : ByteArray) : List UInt8 := s.data.toList
def bs (l : List UInt8) : ByteArray := ⟨l.toArray⟩
theorem bl_bs (l : List UInt8) : bl (bs l) = l := by simp [bs]
theorem bs_bl (s : ByteArray) : bs (bl s) = s := by simp [bs]
theorem bl_len (s : ByteArray) : (bl s).length = s.size := Array.length_toList
theorem bs_size (l : List UInt8) : (bs l).size = l.length := by rw [← bl_len, bl_bs]
theorem bl_inj {a b : ByteArray} (h : bl a = bl b) : a = b := by rw [← bs_bl a, ← bs_bl b, h]
theorem bl_append (a b : ByteArray) : bl (a ++ b) = bl a ++ bl b := by simp [bl]
theorem bs_append (a b : List UInt8) : bs a ++ bs b = bs (a ++ b) := bl_inj (by rw [bl_append, bl_bs, bl_bs, bl_bs])
theorem toL (s : ByteArray) : s.toList = bl s := Go.ByteArray.toList_eq s
theorem eq_bs {s : ByteArray} {l : List UInt8} (h : bl s = l) : s = bs l := by rw [← h, bs_bl]
def ValidT (s : ByteArray) : Prop := s.size ≤ 2000000 ∧ IsT (bl s)
theorem valid_tells (s : ByteArray) : ∃ v, tree_Valid.f s = some v ∧ (v = true ↔ ValidT s) := by
  unfold tree_Valid.f ValidT
  by_cases hz : (s.size : Int) > 2000000
  · rw [if_pos hz]
    exact ⟨false, rfl, ⟨fun h => (by cases h), fun h => (by omega)⟩⟩
  · rw [if_neg hz]
    have hz' : s.size ≤ 2000000 := by omega
    unfold tree_end.f
    rw [if_pos (by omega)]
    simp only [Int.toNat_zero, List.drop_zero, Option.bind_some]
    cases he : endL s.data.toList 1 0 with
    | none =>
      refine ⟨false, by simp, ?_⟩
      constructor
      · intro h; cases h
      · intro ⟨_, h⟩
        rw [isT_iff] at h
        rw [show bl s = s.data.toList from rfl, he] at h
        cases h
    | some q =>
      refine ⟨((q : Int) == (s.size : Int)), by simp, ?_⟩
      rw [beq_iff_eq]
      constructor
      · intro h
        refine ⟨hz', isT_iff.2 ?_⟩
        rw [bl_len]
        show endL s.data.toList 1 0 = _
        rw [he]
        congr 1
        omega
      · intro ⟨_, h⟩
        rw [isT_iff, bl_len] at h
        have := he.symm.trans h
        simp at this
        omega
theorem valid_yes {s : ByteArray} (h : ValidT s) : tree_Valid.f s = some true := by
  obtain ⟨v, e, hv⟩ := valid_tells s
  rw [e, hv.2 h]
end Go.Proofs.YtpnmmpfidiegcaaGreatDoor.Plain
end
section
namespace Go.Proofs.YtpnmmpfidiegcaaGreatDoor.Plain
open Go.Proofs.YtpnmmpfidiegcaaGreatDoor.C
open Go.RowKit Go.Proofs.YtpnmmpfidiegcaaGreatDoorW.PrintWords Go.Proofs.YtpnmmpfidiegcaaGreatDoorW.PrintLast Go.Proofs.YtpnmmpfidiegcaaGreatDoorW.PrintMore
set_option linter.unusedVariables false
set_option linter.unusedSimpArgs false
theorem repeat10 (n : Nat) : Lib.repeatL [49, 48] n ++ [48] = num n := by
  induction n with
  | zero => rfl
  | succ n ih => rw [Lib.repeatL, num, ← ih]; rfl
theorem repeat_length (n : Nat) : (Lib.repeatL [49, 48] n).length = 2 * n := by
  have := congrArg List.length (repeat10 n)
  rw [num_length] at this
  simpa using this
theorem repeat_tells (n : Nat) (h : n ≤ 1000000000) : strings_Repeat.f (⟨#[49, 48]⟩ : ByteArray) (n : Int) = some (bs (Lib.repeatL [49, 48] n)) := by
  unfold strings_Repeat.f
  have hsz : (⟨#[49, 48]⟩ : ByteArray).size * (n : Int).toNat ≤ 140737488355328 := by
    rw [Int.toNat_natCast, lit_size, List.size_toArray]
    simp only [List.length_cons, List.length_nil]
    omega
  rw [if_pos ⟨by omega, by omega, hsz⟩, Int.toNat_natCast]
  rfl
theorem lit48 : (⟨#[48]⟩ : ByteArray) = bs [48] := rfl
theorem number_tells (n : Nat) (h : n ≤ 1000000000) : code_number.f (n : Int) = some (bs (num n)) := by
  unfold code_number.f
  rw [repeat_tells n h, Option.bind_some, bs_size, repeat_length, if_pos (by omega), lit48, bs_append, repeat10]
theorem wrap_small {x : Int} (h1 : -9223372036854775808 ≤ x) (h2 : x ≤ 9223372036854775807) : wrap64 x = x := by
  unfold wrap64; omega
def Nice (x : Ins) : Prop :=
  0 ≤ x.f1 ∧ x.f1 ≤ 1000000 ∧
  (x.f0 = 0 ∧ x.f2 = 0 ∧ x.f3 = 0 ∧ IsT (bl x.f4) ∧ x.f4.size ≤ 2000000 ∨
   x.f0 = 2 ∧ 0 ≤ x.f2 ∧ x.f2 ≤ 1000000 ∧ 0 ≤ x.f3 ∧ x.f3 ≤ 1000000 ∧ bl x.f4 = [] ∨
   x.f0 = 5 ∧ -1000000 ≤ x.f2 ∧ x.f2 ≤ 1000000 ∧ x.f3 = 0 ∧ bl x.f4 = [] ∨
   (x.f0 = 1 ∨ x.f0 = 3 ∨ x.f0 = 4) ∧ 0 ≤ x.f2 ∧ x.f2 ≤ 1000000 ∧ x.f3 = 0 ∧ bl x.f4 = [])
def body (x : Ins) : List UInt8 :=
  if x.f0 = 0 then 49 :: (num x.f1.toNat ++ bl x.f4)
  else if x.f0 = 2 then 49 :: (num x.f1.toNat ++ 49 :: (num x.f2.toNat ++ num x.f3.toNat))
  else if x.f0 = 5 then (if x.f2 < 0 then 49 :: (num x.f1.toNat ++ 49 :: ([49, 48, 48] ++ num (-x.f2).toNat)) else 49 :: (num x.f1.toNat ++ 49 :: ([48] ++ num x.f2.toNat)))
  else 49 :: (num x.f1.toNat ++ num x.f2.toNat)
def item (x : Ins) : List UInt8 := 49 :: (num x.f0.toNat ++ body x)
theorem isT_100 : IsT [49, 48, 48] := isT_cons (a := [48]) isT_nil isT_nil
theorem isT_body {x : Ins} (h : Nice x) : IsT (body x) := by
  unfold body
  obtain ⟨_, _, h | h | h | h⟩ := h
  · rw [if_pos h.1]; exact isT_cons (isT_num _) h.2.2.2.1
  · rw [if_neg (by omega), if_pos h.1]; exact isT_cons (isT_num _) (isT_cons (isT_num _) (isT_num _))
  · rw [if_neg (by omega), if_neg (by omega), if_pos h.1]
    split
    · exact isT_cons (isT_num _) (isT_cons isT_100 (isT_num _))
    · exact isT_cons (isT_num _) (isT_cons isT_nil (isT_num _))
  · rw [if_neg (by omega), if_neg (by omega), if_neg (by omega)]; exact isT_cons (isT_num _) (isT_num _)
theorem isT_item {x : Ins} (h : Nice x) : IsT (item x) := isT_cons (isT_num _) (isT_body h)
theorem num_small {n : Int} (h0 : 0 ≤ n) (h1 : n ≤ 1000000) : code_number.f n = some (bs (num n.toNat)) ∧ (bs (num n.toNat)).size ≤ 2000001 := by
  obtain ⟨m, rfl⟩ := Int.eq_ofNat_of_zero_le h0
  refine ⟨number_tells m (by omega), ?_⟩
  rw [bs_size, num_length]
  simp; omega
theorem lit_bs1 : (⟨#[49]⟩ : ByteArray) = bs [49] := rfl
theorem put_tells {x : Ins} (h : Nice x) : putOf x = some (bs (body x)) := by
  obtain ⟨ha0, ha1, h⟩ := h
  obtain ⟨ea, sa⟩ := num_small ha0 ha1
  unfold putOf body
  rcases h with h | h | h | h
  · rw [if_pos h.1, if_pos h.1]
    unfold code_fields_1.f
    rw [ea]
    simp only [Option.bind_some, lit_bs1, bs_append]
    have := h.2.2.2.2
    rw [if_pos (by omega), if_pos (by rw [bs_size] at *; simp at *; omega)]
    congr 1
  · obtain ⟨h0, hb0, hb1, hc0, hc1, _⟩ := h
    obtain ⟨eb, sb⟩ := num_small hb0 hb1
    obtain ⟨ec, sc⟩ := num_small hc0 hc1
    rw [if_neg (by omega), if_pos h0, if_neg (by omega), if_pos h0]
    unfold code_fields_3.f
    rw [ea, eb, ec]
    simp only [Option.bind_some, lit_bs1, bs_append]
    simp only [bs_size] at *
    rw [if_pos (by omega), if_pos (by simp; omega), if_pos (by simp; omega), if_pos (by simp; omega)]
    congr 2
    simp
  · obtain ⟨h0, hb0, hb1, hc, _⟩ := h
    rw [if_neg (by omega), if_neg (by omega), if_pos h0, if_neg (by omega), if_neg (by omega), if_pos h0]
    unfold code_fields_5.f
    split
    · rename_i hneg
      obtain ⟨eb, sb⟩ := num_small (n := -x.f2) (by omega) (by omega)
      rw [wrap_small (by omega) (by omega), ea, eb]
      simp only [Option.bind_some, lit_bs1, bs_append, show (⟨#[49, 49, 48, 48]⟩ : ByteArray) = bs [49, 49, 48, 48] from rfl]
      simp only [bs_size] at *
      rw [if_pos (by omega), if_pos (by simp; omega), if_pos (by simp; omega)]
      congr 2
      simp
    · rename_i hneg
      obtain ⟨eb, sb⟩ := num_small (n := x.f2) (by omega) (by omega)
      rw [ea, eb]
      simp only [Option.bind_some, lit_bs1, bs_append, show (⟨#[49, 48]⟩ : ByteArray) = bs [49, 48] from rfl]
      simp only [bs_size] at *
      rw [if_pos (by omega), if_pos (by simp; omega), if_pos (by simp; omega)]
      congr 2
      simp
  · obtain ⟨h0, hb0, hb1, hc, _⟩ := h
    obtain ⟨eb, sb⟩ := num_small hb0 hb1
    rw [if_neg (by omega), if_neg (by omega), if_neg (by omega), if_neg (by omega), if_neg (by omega), if_neg (by omega)]
    unfold code_regs_1.f
    rw [ea, eb]
    simp only [Option.bind_some, lit_bs1, bs_append]
    simp only [bs_size] at *
    rw [if_pos (by omega), if_pos (by simp; omega)]
    congr 2
theorem body_neg {x : Ins} (h : x.f0 = 5) (hn : x.f2 < 0) : body x = 49 :: (num x.f1.toNat ++ 49 :: ([49, 48, 48] ++ num (-x.f2).toNat)) := by
  unfold body; rw [if_neg (by omega), if_neg (by omega), if_pos h, if_pos hn]
theorem body_pos {x : Ins} (h : x.f0 = 5) (hn : ¬ x.f2 < 0) : body x = 49 :: (num x.f1.toNat ++ 49 :: ([48] ++ num x.f2.toNat)) := by
  unfold body; rw [if_neg (by omega), if_neg (by omega), if_pos h, if_neg hn]
theorem body_regs {x : Ins} (h0 : x.f0 ≠ 0) (h2 : x.f0 ≠ 2) (h5 : x.f0 ≠ 5) : body x = 49 :: (num x.f1.toNat ++ num x.f2.toNat) := by
  unfold body; rw [if_neg h0, if_neg h2, if_neg h5]
end Go.Proofs.YtpnmmpfidiegcaaGreatDoor.Plain
end
