/- The contracts of code.fields, of what it chooses, and of code.Code. -/
import Derived.Test.YtfckjfoalpkpjaaDoorH2
import Derived.Laws.EntriesVeiled
import Derived.Test.YtfckjfoalpkpjaaDoorF6
import Derived.Test.YtfckjfoalpkpjaaDoorF32
import Derived.Test.YtfckjfoalpkpjaaDoorF34
import Derived.Test.YtfckjfoalpkpjaaDoorF36
import Derived.Test.YtfckjfoalpkpjaaDoorF47
namespace Go.Proofs.YtfckjfoalpkpjaaDoor.C
open Go.RowKit Go.Proofs.YtfckjfoalpkpjaaDoorW.PrintWords Go.Proofs.YtfckjfoalpkpjaaDoorW.PrintLast Go.Proofs.YtfckjfoalpkpjaaDoorW.PrintMore
set_option linter.unusedVariables false
set_option linter.unusedSimpArgs false

/-- Which function writes the fields of an operation, and which one reads them. -/
def fput (op : Int) : Nat := if op = 0 then 32 else if op = 2 then 34 else if op = 5 then 36 else 47
def fget (op : Int) : Nat := if op = 0 then 33 else if op = 2 then 35 else if op = 5 then 37 else 48

set_option maxHeartbeats 1000000 in
set_option maxRecDepth 100000 in
theorem regs_calls (w : World) : Calls Tryd.prog 38 #[] w fun e w' => e = .returned (.agg #[.func (.func 47) #[] #[], .func (.func 48) #[] #[]]) ∧ Below w.heap.size w w' := by
  go_enter Tryd.func38, Tryd.ntmps38
  go_wp2
  exact bodyPost_ret (v := .agg #[.func (.func 47) #[] #[], .func (.func 48) #[] #[]]) (by simp [results, Tryd.results38, go_sem]) rfl ⟨rfl, (Below.refl _ _).alloc (Nat.le_refl _) _⟩

set_option maxHeartbeats 1000000 in
set_option maxRecDepth 100000 in
theorem fields_set (op : Int) (w : World) (t0 : (op == 0) = true) : Calls Tryd.prog 13 #[.int .i64 op] w fun e w' => e = .returned (.agg #[.func (.func 32) #[] #[], .func (.func 33) #[] #[]]) ∧ Below w.heap.size w w' := by
  go_enter Tryd.func13, Tryd.ntmps13
  go_wp2
  exact bodyPost_ret (v := .agg #[.func (.func 32) #[] #[], .func (.func 33) #[] #[]]) (by simp [results, Tryd.results13, go_sem]) rfl ⟨rfl, (Below.refl _ _).alloc (Nat.le_refl _) _⟩

set_option maxHeartbeats 1000000 in
set_option maxRecDepth 100000 in
theorem fields_cons (op : Int) (w : World) (t0 : (op == 0) = false) (t2 : (op == 2) = true) : Calls Tryd.prog 13 #[.int .i64 op] w fun e w' => e = .returned (.agg #[.func (.func 34) #[] #[], .func (.func 35) #[] #[]]) ∧ Below w.heap.size w w' := by
  go_enter Tryd.func13, Tryd.ntmps13
  go_wp2
  exact bodyPost_ret (v := .agg #[.func (.func 34) #[] #[], .func (.func 35) #[] #[]]) (by simp [results, Tryd.results13, go_sem]) rfl ⟨rfl, (Below.refl _ _).alloc (Nat.le_refl _) _⟩

set_option maxHeartbeats 1000000 in
set_option maxRecDepth 100000 in
theorem fields_jump (op : Int) (w : World) (t0 : (op == 0) = false) (t2 : (op == 2) = false) (t5 : (op == 5) = true) : Calls Tryd.prog 13 #[.int .i64 op] w fun e w' => e = .returned (.agg #[.func (.func 36) #[] #[], .func (.func 37) #[] #[]]) ∧ Below w.heap.size w w' := by
  go_enter Tryd.func13, Tryd.ntmps13
  go_wp2
  exact bodyPost_ret (v := .agg #[.func (.func 36) #[] #[], .func (.func 37) #[] #[]]) (by simp [results, Tryd.results13, go_sem]) rfl ⟨rfl, (Below.refl _ _).alloc (Nat.le_refl _) _⟩

set_option maxHeartbeats 1000000 in
set_option maxRecDepth 100000 in
theorem fields_else (op : Int) (w : World) (t0 : (op == 0) = false) (t2 : (op == 2) = false) (t5 : (op == 5) = false) : Calls Tryd.prog 13 #[.int .i64 op] w fun e w' => e = .returned (.agg #[.func (.func 47) #[] #[], .func (.func 48) #[] #[]]) ∧ Below w.heap.size w w' := by
  go_enter Tryd.func13, Tryd.ntmps13
  go_wp2_with (go_at_call 38; refine (regs_calls _).mono ?_)
  rintro e w1 ⟨rfl, hb⟩
  have hbk : w1.heap[w.heap.size]? = some (.cells #[.nilFunc, .nilFunc] 44 (0, 0)) := (hb.block _ (by simp)).trans (heap_alloc_new w _)
  have c0 : w1.cell? ⟨w.heap.size, 0, none⟩ = some .nilFunc := by rw [Lib.cell_of_heap hbk]; rfl
  have c1 : w1.cell? ⟨w.heap.size, 1, none⟩ = some .nilFunc := by rw [Lib.cell_of_heap hbk]; rfl
  have f0 : w1.frozen? ⟨w.heap.size, 0, none⟩ = false := Lib.frozen_of_heap hbk 0
  have f1 : w1.frozen? ⟨w.heap.size, 1, none⟩ = false := Lib.frozen_of_heap hbk 1
  have HB := Aside0.mk hb
  have HK := Aside0.mk hbk
  clear hb hbk
  go_wp2
  have b1 := blk_set (blk_set HK.out 0 (.func (.func 47) #[] #[])) 1 (.func (.func 48) #[] #[])
  have d0 : ((w1.setCell ⟨w.heap.size, 0, none⟩ (.func (.func 47) #[] #[])).setCell ⟨w.heap.size, 1, none⟩ (.func (.func 48) #[] #[])).cell? ⟨w.heap.size, 0, none⟩ = some (.func (.func 47) #[] #[]) := by rw [Lib.cell_of_heap b1]; rfl
  have d1 : ((w1.setCell ⟨w.heap.size, 0, none⟩ (.func (.func 47) #[] #[])).setCell ⟨w.heap.size, 1, none⟩ (.func (.func 48) #[] #[])).cell? ⟨w.heap.size, 1, none⟩ = some (.func (.func 48) #[] #[]) := by rw [Lib.cell_of_heap b1]; rfl
  exact bodyPost_ret (v := .agg #[.func (.func 47) #[] #[], .func (.func 48) #[] #[]]) (by simp [results, Tryd.results13, go_sem, d0, d1]) rfl ⟨rfl, ((((Below.refl _ _).alloc (Nat.le_refl _) _).trans (HB.out.mono (by simp))).setCell (p := ⟨w.heap.size, 0, none⟩) (Nat.le_refl _) _).setCell (p := ⟨w.heap.size, 1, none⟩) (Nat.le_refl _) _⟩

/-- The functions that code.fields chooses. -/
theorem fields_calls (op : Int) (w : World) : Calls Tryd.prog 13 #[.int .i64 op] w fun e w' => e = .returned (.agg #[.func (.func (fput op)) #[] #[], .func (.func (fget op)) #[] #[]]) ∧ Below w.heap.size w w' := by
  unfold fput fget
  by_cases h0 : op = 0
  · rw [if_pos h0, if_pos h0]; exact fields_set op w (beq_iff_eq.2 h0)
  by_cases h2 : op = 2
  · rw [if_neg h0, if_neg h0, if_pos h2, if_pos h2]; exact fields_cons op w (beq_eq_false_iff_ne.2 h0) (beq_iff_eq.2 h2)
  by_cases h5 : op = 5
  · rw [if_neg h0, if_neg h0, if_neg h2, if_neg h2, if_pos h5, if_pos h5]; exact fields_jump op w (beq_eq_false_iff_ne.2 h0) (beq_eq_false_iff_ne.2 h2) (beq_iff_eq.2 h5)
  · rw [if_neg h0, if_neg h0, if_neg h2, if_neg h2, if_neg h5, if_neg h5]; exact fields_else op w (beq_eq_false_iff_ne.2 h0) (beq_eq_false_iff_ne.2 h2) (beq_eq_false_iff_ne.2 h5)

/-- What the chosen function writes. -/
def putOf (x : S40) : Option ByteArray :=
  if x.f0 = 0 then code_fields_1.f x.f0 x.f1 x.f2 x.f3 x.f4 else if x.f0 = 2 then code_fields_3.f x.f0 x.f1 x.f2 x.f3 x.f4 else if x.f0 = 5 then code_fields_5.f x.f0 x.f1 x.f2 x.f3 x.f4 else code_regs_1.f x.f0 x.f1 x.f2 x.f3 x.f4
theorem put_calls (x : S40) (r : ByteArray) (w : World) (h : putOf x = some r) :
    Calls Tryd.prog (fput x.f0) #[.agg #[.int .i64 x.f0, .int .i64 x.f1, .int .i64 x.f2, .int .i64 x.f3, .string x.f4]] w fun e w' => e = .returned (.string r) ∧ Below w.heap.size w w' := by
  unfold putOf at h
  unfold fput
  split at h
  · rename_i h0; rw [if_pos h0]; exact code_fields_1.calls _ _ _ _ _ r w h
  rename_i h0
  split at h
  · rename_i h2; rw [if_neg h0, if_pos h2]; exact code_fields_3.calls _ _ _ _ _ r w h
  rename_i h2
  split at h
  · rename_i h5; rw [if_neg h0, if_neg h2, if_pos h5]; exact code_fields_5.calls _ _ _ _ _ r w h
  · rename_i h5; rw [if_neg h0, if_neg h2, if_neg h5]; exact code_regs_1.calls _ _ _ _ _ r w h
theorem run_field_put (a b : Nat) (W : World) : (Instr.field 44 (.agg #[.func (.func a) #[] #[], .func (.func b) #[] #[]]) 0).run Tryd.prog W = .ok (.func (.func a) #[] #[]) W := by kernel_rfl
theorem run_field_get (a b : Nat) (W : World) : (Instr.field 44 (.agg #[.func (.func a) #[] #[], .func (.func b) #[] #[]]) 1).run Tryd.prog W = .ok (.func (.func b) #[] #[]) W := by kernel_rfl
end Go.Proofs.YtfckjfoalpkpjaaDoor.C
