import Derived.Test.YtfckjfoalpkpjaaGreatDoorH2
import Derived.Laws.EntriesVeiled
import Derived.Test.YtfckjfoalpkpjaaGreatDoorF23
import Derived.Test.YtfckjfoalpkpjaaGreatDoorF59
import Derived.Test.YtfckjfoalpkpjaaGreatDoorF61
import Derived.Test.YtfckjfoalpkpjaaGreatDoorF63
import Derived.Test.YtfckjfoalpkpjaaGreatDoorF79
set_option linter.unusedSimpArgs false
set_option linter.unusedVariables false
namespace Go.Proofs.YtfckjfoalpkpjaaGreatDoor.C
open Go.RowKit Go.Proofs.YtfckjfoalpkpjaaGreatDoorW.PrintWords Go.Proofs.YtfckjfoalpkpjaaGreatDoorW.PrintLast Go.Proofs.YtfckjfoalpkpjaaGreatDoorW.PrintMore
def fput (op:Int):Nat:=if op=0 then 59 else if op=2 then 61 else if op=5 then 63 else 79
def fget (op:Int):Nat:=if op=0 then 60 else if op=2 then 62 else if op=5 then 64 else 80
set_option maxHeartbeats 1000000 in
set_option maxRecDepth 100000 in
theorem regs_calls (w:World):Calls Tryz.prog 65 #[] w fun e w'=>e = .returned (.agg #[.func (.func 79) #[] #[],.func (.func 80) #[] #[]])∧Below w.heap.size w w':=by
  go_enter Tryz.func65,Tryz.ntmps65
  go_wp2
  exact bodyPost_ret (v:=.agg #[.func (.func 79) #[] #[],.func (.func 80) #[] #[]]) (by simp [results,Tryz.results65,go_sem]) rfl ⟨rfl,(Below.refl _ _).alloc (Nat.le_refl _) _⟩
set_option maxHeartbeats 1000000 in
set_option maxRecDepth 100000 in
theorem fields_set (op:Int) (w:World) (t0:(op == 0)=true):Calls Tryz.prog 29 #[.int .i64 op] w fun e w'=>e = .returned (.agg #[.func (.func 59) #[] #[],.func (.func 60) #[] #[]])∧Below w.heap.size w w':=by
  go_enter Tryz.func29,Tryz.ntmps29
  go_wp2
  exact bodyPost_ret (v:=.agg #[.func (.func 59) #[] #[],.func (.func 60) #[] #[]]) (by simp [results,Tryz.results29,go_sem]) rfl ⟨rfl,(Below.refl _ _).alloc (Nat.le_refl _) _⟩
set_option maxHeartbeats 1000000 in
set_option maxRecDepth 100000 in
theorem fields_cons (op:Int) (w:World) (t0:(op == 0)=false) (t2:(op == 2)=true):Calls Tryz.prog 29 #[.int .i64 op] w fun e w'=>e = .returned (.agg #[.func (.func 61) #[] #[],.func (.func 62) #[] #[]])∧Below w.heap.size w w':=by
  go_enter Tryz.func29,Tryz.ntmps29
  go_wp2
  exact bodyPost_ret (v:=.agg #[.func (.func 61) #[] #[],.func (.func 62) #[] #[]]) (by simp [results,Tryz.results29,go_sem]) rfl ⟨rfl,(Below.refl _ _).alloc (Nat.le_refl _) _⟩
set_option maxHeartbeats 1000000 in
set_option maxRecDepth 100000 in
theorem fields_jump (op:Int) (w:World) (t0:(op == 0)=false) (t2:(op == 2)=false) (t5:(op == 5)=true):Calls Tryz.prog 29 #[.int .i64 op] w fun e w'=>e = .returned (.agg #[.func (.func 63) #[] #[],.func (.func 64) #[] #[]])∧Below w.heap.size w w':=by
  go_enter Tryz.func29,Tryz.ntmps29
  go_wp2
  exact bodyPost_ret (v:=.agg #[.func (.func 63) #[] #[],.func (.func 64) #[] #[]]) (by simp [results,Tryz.results29,go_sem]) rfl ⟨rfl,(Below.refl _ _).alloc (Nat.le_refl _) _⟩
set_option maxHeartbeats 1000000 in
set_option maxRecDepth 100000 in
theorem fields_else (op:Int) (w:World) (t0:(op == 0)=false) (t2:(op == 2)=false) (t5:(op == 5)=false):Calls Tryz.prog 29 #[.int .i64 op] w fun e w'=>e = .returned (.agg #[.func (.func 79) #[] #[],.func (.func 80) #[] #[]])∧Below w.heap.size w w':=by
  go_enter Tryz.func29,Tryz.ntmps29
  go_wp2_with (go_at_call 65;refine (regs_calls _).mono ?_)
  rintro e w1 ⟨rfl,hb⟩
  have hbk:w1.heap[w.heap.size]? = some (.cells #[.nilFunc,.nilFunc] 53 (0,0)):=(hb.block _ (by simp)).trans (heap_alloc_new w _)
  have c0:w1.cell? ⟨w.heap.size,0,none⟩=some .nilFunc:=by rw [Lib.cell_of_heap hbk];rfl
  have c1:w1.cell? ⟨w.heap.size,1,none⟩=some .nilFunc:=by rw [Lib.cell_of_heap hbk];rfl
  have f0:w1.frozen? ⟨w.heap.size,0,none⟩=false:=Lib.frozen_of_heap hbk 0
  have f1:w1.frozen? ⟨w.heap.size,1,none⟩=false:=Lib.frozen_of_heap hbk 1
  have HB:=Aside0.mk hb
  have HK:=Aside0.mk hbk
  clear hb hbk;go_wp2
  have b1:=blk_set (blk_set HK.out 0 (.func (.func 79) #[] #[])) 1 (.func (.func 80) #[] #[])
  have d0:((w1.setCell ⟨w.heap.size,0,none⟩ (.func (.func 79) #[] #[])).setCell ⟨w.heap.size,1,none⟩ (.func (.func 80) #[] #[])).cell? ⟨w.heap.size,0,none⟩=some (.func (.func 79) #[] #[]):=by rw [Lib.cell_of_heap b1];rfl
  have d1:((w1.setCell ⟨w.heap.size,0,none⟩ (.func (.func 79) #[] #[])).setCell ⟨w.heap.size,1,none⟩ (.func (.func 80) #[] #[])).cell? ⟨w.heap.size,1,none⟩=some (.func (.func 80) #[] #[]):=by rw [Lib.cell_of_heap b1];rfl
  exact bodyPost_ret (v:=.agg #[.func (.func 79) #[] #[],.func (.func 80) #[] #[]]) (by simp [results,Tryz.results29,go_sem,d0,d1]) rfl ⟨rfl,((((Below.refl _ _).alloc (Nat.le_refl _) _).trans (HB.out.mono (by simp))).setCell (p:=⟨w.heap.size,0,none⟩) (Nat.le_refl _) _).setCell (p:=⟨w.heap.size,1,none⟩) (Nat.le_refl _) _⟩
theorem fields_calls (op:Int) (w:World):Calls Tryz.prog 29 #[.int .i64 op] w fun e w'=>e = .returned (.agg #[.func (.func (fput op)) #[] #[],.func (.func (fget op)) #[] #[]])∧Below w.heap.size w w':=by
  unfold fput fget
  by_cases h0:op=0
  · rw [if_pos h0,if_pos h0];exact fields_set op w (beq_iff_eq.2 h0)
  by_cases h2:op=2
  · rw [if_neg h0,if_neg h0,if_pos h2,if_pos h2];exact fields_cons op w (beq_eq_false_iff_ne.2 h0) (beq_iff_eq.2 h2)
  by_cases h5:op=5
  · rw [if_neg h0,if_neg h0,if_neg h2,if_neg h2,if_pos h5,if_pos h5];exact fields_jump op w (beq_eq_false_iff_ne.2 h0) (beq_eq_false_iff_ne.2 h2) (beq_iff_eq.2 h5)
  · rw [if_neg h0,if_neg h0,if_neg h2,if_neg h2,if_neg h5,if_neg h5];exact fields_else op w (beq_eq_false_iff_ne.2 h0) (beq_eq_false_iff_ne.2 h2) (beq_eq_false_iff_ne.2 h5)
def putOf (x:S42):Option ByteArray :=
  if x.f0=0 then code_fields_1.f x.f0 x.f1 x.f2 x.f3 x.f4 else if x.f0=2 then code_fields_3.f x.f0 x.f1 x.f2 x.f3 x.f4 else if x.f0=5 then code_fields_5.f x.f0 x.f1 x.f2 x.f3 x.f4 else code_regs_1.f x.f0 x.f1 x.f2 x.f3 x.f4
theorem put_calls (x:S42) (r:ByteArray) (w:World) (h:putOf x=some r) :
    Calls Tryz.prog (fput x.f0) #[.agg #[.int .i64 x.f0,.int .i64 x.f1,.int .i64 x.f2,.int .i64 x.f3,.string x.f4]] w fun e w'=>e = .returned (.string r)∧Below w.heap.size w w':=by
  unfold putOf at h
  unfold fput
  split at h
  · rename_i h0;rw [if_pos h0];exact code_fields_1.calls _ _ _ _ _ r w h
  rename_i h0
  split at h
  · rename_i h2;rw [if_neg h0,if_pos h2];exact code_fields_3.calls _ _ _ _ _ r w h
  rename_i h2
  split at h
  · rename_i h5;rw [if_neg h0,if_neg h2,if_pos h5];exact code_fields_5.calls _ _ _ _ _ r w h
  · rename_i h5;rw [if_neg h0,if_neg h2,if_neg h5];exact code_regs_1.calls _ _ _ _ _ r w h
theorem run_field_put (a b:Nat) (W:World):(Instr.field 53 (.agg #[.func (.func a) #[] #[],.func (.func b) #[] #[]]) 0).run Tryz.prog W = .ok (.func (.func a) #[] #[]) W:=by kernel_rfl
theorem run_field_get (a b:Nat) (W:World):(Instr.field 53 (.agg #[.func (.func a) #[] #[],.func (.func b) #[] #[]]) 1).run Tryz.prog W = .ok (.func (.func b) #[] #[]) W:=by kernel_rfl
end Go.Proofs.YtfckjfoalpkpjaaGreatDoor.C
