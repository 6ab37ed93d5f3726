import Derived.Test.YtfckjfoalpkpjaaGreatDoorT0
import Derived.Test.YtfckjfoalpkpjaaGreatDoorYA
import Derived.Test.YtfckjfoalpkpjaaGreatDoorH0
import Derived.Test.YtfckjfoalpkpjaaGreatDoorH8
import Derived.Test.YtfckjfoalpkpjaaGreatDoorF22
set_option linter.unusedSimpArgs false
set_option linter.unusedVariables false
namespace Go.Proofs.YtfckjfoalpkpjaaGreatDoor.C
open Go.RowKit Go.Proofs.YtfckjfoalpkpjaaGreatDoorW.PrintWords Go.Proofs.YtfckjfoalpkpjaaGreatDoorW.PrintLast Go.Proofs.YtfckjfoalpkpjaaGreatDoorW.PrintMore
section
attribute [local go_sem] max2_int min2_int max_two min_two max_three min_three max_four min_four
mutual
def narcissusref02_Right.j0:Nat→Int→Int→Bool→Int→Int→Int→Int→ByteArray→Option (Bool)
 | 0,_,_,_,_,_,_,_,_=>none
 | k+1,x1,x2,x30,x2000,x2001,x2002,x2003,x2004=>if x30=true then (some false) else (if x2000=0 then (if x2002=0 then ((narcissusref01_Valid.f k x2004).bind fun t3=>(some t3)) else (some false)) else (if x2000=1 then (narcissusref02_Right.j1 k x1 x2 x2000 (x2000 == 1) x2000 x2001 x2002 x2003 x2004) else (if x2000=3 then (narcissusref02_Right.j1 k x1 x2 x2000 (x2000 == 3) x2000 x2001 x2002 x2003 x2004) else (narcissusref02_Right.j1 k x1 x2 x2000 (x2000 == 4) x2000 x2001 x2002 x2003 x2004))))
def narcissusref02_Right.j1:Nat→Int→Int→Int→Bool→Int→Int→Int→Int→ByteArray→Option (Bool)
 | 0,_,_,_,_,_,_,_,_,_=>none
 | k+1,x1,x2,x32,x43,x2000,x2001,x2002,x2003,x2004=>if x43=true then ((narcissusref02_Register.f x2002).bind fun t4=>(some t4)) else (if x32=2 then ((narcissusref02_Register.f x2002).bind fun t5=>(if t5=true then ((narcissusref02_Register.f x2003).bind fun t6=>(some t6)) else (some false))) else (if x32=5 then (if x2002 ≥ (wrap64 (-x1)) then (some (decide (x2002≤(wrap64 (x2 - x1))))) else (some false)) else (some false)))
end
def narcissusref02_Right.f (k:Nat) (a0_0:Int) (a0_1:Int) (a0_2:Int) (a0_3:Int) (a0_4:ByteArray) (a1:Int) (a2:Int):Option (Bool):=(narcissusref02_Register.f a0_1).bind fun t2=>(if t2=true then (if a0_0=0 then (if a0_0=2 then (narcissusref02_Right.j0 k a1 a2 false a0_0 a0_1 a0_2 a0_3 a0_4) else (narcissusref02_Right.j0 k a1 a2 (a0_3 != 0) a0_0 a0_1 a0_2 a0_3 a0_4)) else (if a0_4.toList=([]:List UInt8) then (if a0_0=2 then (narcissusref02_Right.j0 k a1 a2 false a0_0 a0_1 a0_2 a0_3 a0_4) else (narcissusref02_Right.j0 k a1 a2 (a0_3 != 0) a0_0 a0_1 a0_2 a0_3 a0_4)) else (narcissusref02_Right.j0 k a1 a2 true a0_0 a0_1 a0_2 a0_3 a0_4))) else (narcissusref02_Right.j0 k a1 a2 true a0_0 a0_1 a0_2 a0_3 a0_4))
theorem narcissusref02_Right.mono_l : ∀ k,(∀ y0 y1 y2 y3 y4 y5 y6 y7,LeO (narcissusref02_Right.j0 k y0 y1 y2 y3 y4 y5 y6 y7) (narcissusref02_Right.j0 (k+1) y0 y1 y2 y3 y4 y5 y6 y7))∧(∀ y0 y1 y2 y3 y4 y5 y6 y7 y8,LeO (narcissusref02_Right.j1 k y0 y1 y2 y3 y4 y5 y6 y7 y8) (narcissusref02_Right.j1 (k+1) y0 y1 y2 y3 y4 y5 y6 y7 y8))
 | 0=>⟨fun _ _ _ _ _ _ _ _ r h=>by simp [narcissusref02_Right.j0] at h,fun _ _ _ _ _ _ _ _ _ r h=>by simp [narcissusref02_Right.j1] at h⟩
 | k+1=>by
  obtain ⟨ih0,ih1⟩:=narcissusref02_Right.mono_l k
  refine ⟨?_,?_⟩
  ·intro y0 y1 y2 y3 y4 y5 y6 y7
   unfold narcissusref02_Right.j0
   repeat' first
   | (with_reducible exact ih0 _ _ _ _ _ _ _ _)
   | (with_reducible exact ih1 _ _ _ _ _ _ _ _ _)
   | (with_reducible exact narcissusref01_Valid.mono _ _)
   | (with_reducible exact LeO.refl _)
   | (with_reducible exact LeO.none _)
   | (with_reducible refine LeO.ite ?_ ?_)
   | (with_reducible refine LeO.bind ?_ (fun _=>?_))
   | exact ih0 _ _ _ _ _ _ _ _
   | exact ih1 _ _ _ _ _ _ _ _ _
   | exact narcissusref01_Valid.mono _ _
   | exact LeO.none _
   | refine LeO.ite ?_ ?_
   | refine LeO.bind ?_ (fun _=>?_)
  ·intro y0 y1 y2 y3 y4 y5 y6 y7 y8
   unfold narcissusref02_Right.j1
   repeat' first
   | (with_reducible exact ih0 _ _ _ _ _ _ _ _)
   | (with_reducible exact ih1 _ _ _ _ _ _ _ _ _)
   | (with_reducible exact narcissusref01_Valid.mono _ _)
   | (with_reducible exact LeO.refl _)
   | (with_reducible exact LeO.none _)
   | (with_reducible refine LeO.ite ?_ ?_)
   | (with_reducible refine LeO.bind ?_ (fun _=>?_))
   | exact ih0 _ _ _ _ _ _ _ _
   | exact ih1 _ _ _ _ _ _ _ _ _
   | exact narcissusref01_Valid.mono _ _
   | exact LeO.none _
   | refine LeO.ite ?_ ?_
   | refine LeO.bind ?_ (fun _=>?_)
theorem narcissusref02_Right.mono : ∀ a0 a1 a2 a3 a4 a5 a6 k,LeO (narcissusref02_Right.f k a0 a1 a2 a3 a4 a5 a6) (narcissusref02_Right.f (k+1) a0 a1 a2 a3 a4 a5 a6):=by
 intro a0 a1 a2 a3 a4 a5 a6 k
 obtain ⟨ih0,ih1⟩:=narcissusref02_Right.mono_l k
 unfold narcissusref02_Right.f
 repeat' first
   | (with_reducible exact ih0 _ _ _ _ _ _ _ _)
   | (with_reducible exact ih1 _ _ _ _ _ _ _ _ _)
   | (with_reducible exact narcissusref01_Valid.mono _ _)
   | (with_reducible exact LeO.refl _)
   | (with_reducible exact LeO.none _)
   | (with_reducible refine LeO.ite ?_ ?_)
   | (with_reducible refine LeO.bind ?_ (fun _=>?_))
   | exact ih0 _ _ _ _ _ _ _ _
   | exact ih1 _ _ _ _ _ _ _ _ _
   | exact narcissusref01_Valid.mono _ _
   | exact LeO.none _
   | refine LeO.ite ?_ ?_
   | refine LeO.bind ?_ (fun _=>?_)
set_option maxHeartbeats 8000000 in
set_option maxRecDepth 100000 in
theorem narcissusref02_Right.calls (k:Nat) (a0_0:Int) (a0_1:Int) (a0_2:Int) (a0_3:Int) (a0_4:ByteArray) (a1:Int) (a2:Int) (r:Bool) (w:World) (h:narcissusref02_Right.f k a0_0 a0_1 a0_2 a0_3 a0_4 a1 a2=some r) :
  Calls Tryz.prog 40 #[.agg #[.int .i64 a0_0,.int .i64 a0_1,.int .i64 a0_2,.int .i64 a0_3,.string a0_4],.int .i64 a1,.int .i64 a2] w fun e w'=>e = .returned (.bool r)∧Below w.heap.size w w':=by
 have hu42:=Tryz.underlying42
 have HB:=Aside0.mk (Below.refl w.heap.size w)
 have H:((narcissusref02_Register.f a0_1).bind fun t2=>(if t2=true then (if a0_0=0 then (if a0_0=2 then (narcissusref02_Right.j0 k a1 a2 false a0_0 a0_1 a0_2 a0_3 a0_4) else (narcissusref02_Right.j0 k a1 a2 (a0_3 != 0) a0_0 a0_1 a0_2 a0_3 a0_4)) else (if a0_4.toList=([]:List UInt8) then (if a0_0=2 then (narcissusref02_Right.j0 k a1 a2 false a0_0 a0_1 a0_2 a0_3 a0_4) else (narcissusref02_Right.j0 k a1 a2 (a0_3 != 0) a0_0 a0_1 a0_2 a0_3 a0_4)) else (narcissusref02_Right.j0 k a1 a2 true a0_0 a0_1 a0_2 a0_3 a0_4))) else (narcissusref02_Right.j0 k a1 a2 true a0_0 a0_1 a0_2 a0_3 a0_4)))=some r:=h
 clear h;have HC4:=Aside0.mk H
 clear H;go_enter Tryz.func40,Tryz.ntmps40
 go_upto_region 1 with (first|((with_reducible refine gate_dst (N:=3) rfl ?_);refine box_event ?hg (N:=3) ?hd (cs:=#[.int .i64 a0_0,.int .i64 a0_1,.int .i64 a0_2,.int .i64 a0_3,.string a0_4]) (t:=42) ?hr ?_;(case hd=>rfl);(case hg=>rfl);(case hr=>first|(go_simp;done)|(go_simp;rfl));intro gb1 hg w5 hbox hb;have n0_:=Aside0.mk (below_step (by repeat (first|(with_reducible first|exact HB.out|apply below_alloc|apply pw_below_drewN|apply below_drew1)|exact HB.out)) hb);have n1_:=Aside0.mk (hbox);have n2_:=Aside0.mk ((by rw [hg];exact (below_size (by repeat (first|(with_reducible first|exact HB.out|apply below_alloc|apply pw_below_drewN|apply below_drew1)|exact HB.out))):w.heap.size≤gb1));have n3_:=Aside0.mk ((by rw [hg];exact (below_size (by repeat (first|(with_reducible first|exact HB.out|apply below_alloc|apply pw_below_drewN|apply below_drew1)|exact HB.out))):w.heap.size≤gb1));clear HB;have HB:=n0_;have BK1:=n1_;have GW1:=n2_;have GE1:=n3_;clear n0_ n1_ n2_ n3_;clear hb hbox hg))
 (try simp only [Act.put,List.setIfInBounds_toArray,List.set_cons_zero,List.set_cons_succ])
 go_cut [30] (fun v30 wc => ∃ (kq:Nat) (x30_3:Bool),v30 = .bool x30_3∧Aside0 (narcissusref02_Right.j0 kq a1 a2 x30_3 a0_0 a0_1 a0_2 a0_3 a0_4=some r)∧Aside0 (kq≤k)∧Aside0 (wc.heap[gb1]? = some (.cells #[.int .i64 a0_0,.int .i64 a0_1,.int .i64 a0_2,.int .i64 a0_3,.string a0_4] 42 (0,0)))∧Aside0 (Below w.heap.size w wc))
 case first =>
  have H:=HC4.out
  clear HC4;replace H:=Option.bind_eq_some_iff.mp H
  obtain ⟨t2,A60,H⟩:=H
  replace H:(if t2=true then (if a0_0=0 then (if a0_0=2 then (narcissusref02_Right.j0 k a1 a2 false a0_0 a0_1 a0_2 a0_3 a0_4) else (narcissusref02_Right.j0 k a1 a2 (a0_3 != 0) a0_0 a0_1 a0_2 a0_3 a0_4)) else (if a0_4.toList=([]:List UInt8) then (if a0_0=2 then (narcissusref02_Right.j0 k a1 a2 false a0_0 a0_1 a0_2 a0_3 a0_4) else (narcissusref02_Right.j0 k a1 a2 (a0_3 != 0) a0_0 a0_1 a0_2 a0_3 a0_4)) else (narcissusref02_Right.j0 k a1 a2 true a0_0 a0_1 a0_2 a0_3 a0_4))) else (narcissusref02_Right.j0 k a1 a2 true a0_0 a0_1 a0_2 a0_3 a0_4))=some r:=H
  have A6:=Aside0.mk A60
  clear A60;by_cases c7:t2=true
  ·subst c7
   have H1:(if a0_0=0 then (if a0_0=2 then (narcissusref02_Right.j0 k a1 a2 false a0_0 a0_1 a0_2 a0_3 a0_4) else (narcissusref02_Right.j0 k a1 a2 (a0_3 != 0) a0_0 a0_1 a0_2 a0_3 a0_4)) else (if a0_4.toList=([]:List UInt8) then (if a0_0=2 then (narcissusref02_Right.j0 k a1 a2 false a0_0 a0_1 a0_2 a0_3 a0_4) else (narcissusref02_Right.j0 k a1 a2 (a0_3 != 0) a0_0 a0_1 a0_2 a0_3 a0_4)) else (narcissusref02_Right.j0 k a1 a2 true a0_0 a0_1 a0_2 a0_3 a0_4)))=some r:=by rw [if_pos rfl] at H;exact H
   clear H;have H:=H1
   clear H1;by_cases c8:a0_0=0
   ·rw [if_pos c8] at H
    have c8b0:(a0_0 == 0)=true:=beq_iff_eq.mpr c8
    have c8b1:(a0_0 != 0)=false:=bne_eq_false_iff_eq.mpr c8
    clear c8;(first|rw [c8b0]|(simp only [i64_w,i32_w];rw [c8b0])|skip)
    by_cases c9:a0_0=2
    ·rw [if_pos c9] at H
     have c9b0:(a0_0 == 2)=true:=beq_iff_eq.mpr c9
     have c9b1:(a0_0 != 2)=false:=bne_eq_false_iff_eq.mpr c9
     clear c9;have H':=Aside0.mk H
     clear H;have hcz10_0:w5.cell? ⟨gb1,0,none⟩=some (.int .i64 a0_0):=(blk_cell BK1.out 0).trans rfl
     have hcz10_1:w5.cell? ⟨gb1,1,none⟩=some (.int .i64 a0_1):=(blk_cell BK1.out 1).trans rfl
     have hcz10_2:w5.cell? ⟨gb1,2,none⟩=some (.int .i64 a0_2):=(blk_cell BK1.out 2).trans rfl
     have hcz10_3:w5.cell? ⟨gb1,3,none⟩=some (.int .i64 a0_3):=(blk_cell BK1.out 3).trans rfl
     have hcz10_4:w5.cell? ⟨gb1,4,none⟩=some (.string a0_4):=(blk_cell BK1.out 4).trans rfl
     have hfz10_0:=blk_frozen BK1.out 0
     have hfz10_1:=blk_frozen BK1.out 1
     have hfz10_2:=blk_frozen BK1.out 2
     have hfz10_3:=blk_frozen BK1.out 3
     have hfz10_4:=blk_frozen BK1.out 4
     go_wp2_with (first|((with_reducible refine gate_callee (f:=72) rfl ?_);refine goesL_ (some 9) rfl rfl Tryz.func72 (by kernel_rfl) rfl #[.int .i64 a0_1] rfl (by (try simp only [List.map_toArray,List.map_cons,List.map_nil]);first|done|rfl) ?_;(with_reducible refine (narcissusref02_Register.calls a0_1 true _ A6.out).mono ?_);rintro e w' ⟨rfl,⟨nd,rfl⟩⟩;refine ⟨_,rfl,?_⟩))
     go_meet
     case rel=>exact ⟨_,(false),(by first|rfl|(simp;done)|(simp [*];done)),H',⟨by first|omega|exact Nat.le_refl _⟩,⟨by (with_reducible repeat (first|refine blk_drewN ?_ _|refine blk_drew ?_|refine blk_alloc ?_ _));exact BK1.out⟩,⟨by repeat (first|(with_reducible first|exact HB.out|apply below_alloc|apply pw_below_drewN|apply below_drew1|refine below_set ?_ GE1.out)|exact HB.out)⟩⟩
    ·rw [if_neg c9] at H
     have c9b0:(a0_0 == 2)=false:=beq_eq_false_iff_ne.mpr c9
     have c9b1:(a0_0 != 2)=true:=bne_iff_ne.mpr c9
     have H':=Aside0.mk H
     clear H;have hcz11_0:w5.cell? ⟨gb1,0,none⟩=some (.int .i64 a0_0):=(blk_cell BK1.out 0).trans rfl
     have hcz11_1:w5.cell? ⟨gb1,1,none⟩=some (.int .i64 a0_1):=(blk_cell BK1.out 1).trans rfl
     have hcz11_2:w5.cell? ⟨gb1,2,none⟩=some (.int .i64 a0_2):=(blk_cell BK1.out 2).trans rfl
     have hcz11_3:w5.cell? ⟨gb1,3,none⟩=some (.int .i64 a0_3):=(blk_cell BK1.out 3).trans rfl
     have hcz11_4:w5.cell? ⟨gb1,4,none⟩=some (.string a0_4):=(blk_cell BK1.out 4).trans rfl
     have hfz11_0:=blk_frozen BK1.out 0
     have hfz11_1:=blk_frozen BK1.out 1
     have hfz11_2:=blk_frozen BK1.out 2
     have hfz11_3:=blk_frozen BK1.out 3
     have hfz11_4:=blk_frozen BK1.out 4
     go_wp2_with (first|((with_reducible refine gate_callee (f:=72) rfl ?_);refine goesL_ (some 9) rfl rfl Tryz.func72 (by kernel_rfl) rfl #[.int .i64 a0_1] rfl (by (try simp only [List.map_toArray,List.map_cons,List.map_nil]);first|done|rfl) ?_;(with_reducible refine (narcissusref02_Register.calls a0_1 true _ A6.out).mono ?_);rintro e w' ⟨rfl,⟨nd,rfl⟩⟩;refine ⟨_,rfl,?_⟩))
     go_meet
     case rel=>exact ⟨_,((a0_3 != 0)),(by first|rfl|(simp;done)|(simp [*];done)),H',⟨by first|omega|exact Nat.le_refl _⟩,⟨by (with_reducible repeat (first|refine blk_drewN ?_ _|refine blk_drew ?_|refine blk_alloc ?_ _));exact BK1.out⟩,⟨by repeat (first|(with_reducible first|exact HB.out|apply below_alloc|apply pw_below_drewN|apply below_drew1|refine below_set ?_ GE1.out)|exact HB.out)⟩⟩
   ·rw [if_neg c8] at H
    have c8b0:(a0_0 == 0)=false:=beq_eq_false_iff_ne.mpr c8
    have c8b1:(a0_0 != 0)=true:=bne_iff_ne.mpr c8
    (first|rw [c8b0]|(simp only [i64_w,i32_w];rw [c8b0])|skip)
    by_cases c12:a0_4.toList=([]:List UInt8)
    ·rw [if_pos c12] at H
     have c12b0:(a0_4.toList == ([]:List UInt8))=true:=beq_iff_eq.mpr c12
     have c12b1:(a0_4.toList != ([]:List UInt8))=false:=bne_eq_false_iff_eq.mpr c12
     clear c12;by_cases c13:a0_0=2
     ·rw [if_pos c13] at H
      have c13b0:(a0_0 == 2)=true:=beq_iff_eq.mpr c13
      have c13b1:(a0_0 != 2)=false:=bne_eq_false_iff_eq.mpr c13
      clear c13;have H':=Aside0.mk H
      clear H;have hcz14_0:w5.cell? ⟨gb1,0,none⟩=some (.int .i64 a0_0):=(blk_cell BK1.out 0).trans rfl
      have hcz14_1:w5.cell? ⟨gb1,1,none⟩=some (.int .i64 a0_1):=(blk_cell BK1.out 1).trans rfl
      have hcz14_2:w5.cell? ⟨gb1,2,none⟩=some (.int .i64 a0_2):=(blk_cell BK1.out 2).trans rfl
      have hcz14_3:w5.cell? ⟨gb1,3,none⟩=some (.int .i64 a0_3):=(blk_cell BK1.out 3).trans rfl
      have hcz14_4:w5.cell? ⟨gb1,4,none⟩=some (.string a0_4):=(blk_cell BK1.out 4).trans rfl
      have hfz14_0:=blk_frozen BK1.out 0
      have hfz14_1:=blk_frozen BK1.out 1
      have hfz14_2:=blk_frozen BK1.out 2
      have hfz14_3:=blk_frozen BK1.out 3
      have hfz14_4:=blk_frozen BK1.out 4
      go_wp2_with (first|((with_reducible refine gate_callee (f:=72) rfl ?_);refine goesL_ (some 9) rfl rfl Tryz.func72 (by kernel_rfl) rfl #[.int .i64 a0_1] rfl (by (try simp only [List.map_toArray,List.map_cons,List.map_nil]);first|done|rfl) ?_;(with_reducible refine (narcissusref02_Register.calls a0_1 true _ A6.out).mono ?_);rintro e w' ⟨rfl,⟨nd,rfl⟩⟩;refine ⟨_,rfl,?_⟩))
      go_meet
      case rel=>exact ⟨_,(false),(by first|rfl|(simp;done)|(simp [*];done)),H',⟨by first|omega|exact Nat.le_refl _⟩,⟨by (with_reducible repeat (first|refine blk_drewN ?_ _|refine blk_drew ?_|refine blk_alloc ?_ _));exact BK1.out⟩,⟨by repeat (first|(with_reducible first|exact HB.out|apply below_alloc|apply pw_below_drewN|apply below_drew1|refine below_set ?_ GE1.out)|exact HB.out)⟩⟩
     ·rw [if_neg c13] at H
      have c13b0:(a0_0 == 2)=false:=beq_eq_false_iff_ne.mpr c13
      have c13b1:(a0_0 != 2)=true:=bne_iff_ne.mpr c13
      have H':=Aside0.mk H
      clear H;have hcz15_0:w5.cell? ⟨gb1,0,none⟩=some (.int .i64 a0_0):=(blk_cell BK1.out 0).trans rfl
      have hcz15_1:w5.cell? ⟨gb1,1,none⟩=some (.int .i64 a0_1):=(blk_cell BK1.out 1).trans rfl
      have hcz15_2:w5.cell? ⟨gb1,2,none⟩=some (.int .i64 a0_2):=(blk_cell BK1.out 2).trans rfl
      have hcz15_3:w5.cell? ⟨gb1,3,none⟩=some (.int .i64 a0_3):=(blk_cell BK1.out 3).trans rfl
      have hcz15_4:w5.cell? ⟨gb1,4,none⟩=some (.string a0_4):=(blk_cell BK1.out 4).trans rfl
      have hfz15_0:=blk_frozen BK1.out 0
      have hfz15_1:=blk_frozen BK1.out 1
      have hfz15_2:=blk_frozen BK1.out 2
      have hfz15_3:=blk_frozen BK1.out 3
      have hfz15_4:=blk_frozen BK1.out 4
      go_wp2_with (first|((with_reducible refine gate_callee (f:=72) rfl ?_);refine goesL_ (some 9) rfl rfl Tryz.func72 (by kernel_rfl) rfl #[.int .i64 a0_1] rfl (by (try simp only [List.map_toArray,List.map_cons,List.map_nil]);first|done|rfl) ?_;(with_reducible refine (narcissusref02_Register.calls a0_1 true _ A6.out).mono ?_);rintro e w' ⟨rfl,⟨nd,rfl⟩⟩;refine ⟨_,rfl,?_⟩))
      go_meet
      case rel=>exact ⟨_,((a0_3 != 0)),(by first|rfl|(simp;done)|(simp [*];done)),H',⟨by first|omega|exact Nat.le_refl _⟩,⟨by (with_reducible repeat (first|refine blk_drewN ?_ _|refine blk_drew ?_|refine blk_alloc ?_ _));exact BK1.out⟩,⟨by repeat (first|(with_reducible first|exact HB.out|apply below_alloc|apply pw_below_drewN|apply below_drew1|refine below_set ?_ GE1.out)|exact HB.out)⟩⟩
    ·rw [if_neg c12] at H
     have c12b0:(a0_4.toList == ([]:List UInt8))=false:=beq_eq_false_iff_ne.mpr c12
     have c12b1:(a0_4.toList != ([]:List UInt8))=true:=bne_iff_ne.mpr c12
     have H':=Aside0.mk H
     clear H;have hcz16_0:w5.cell? ⟨gb1,0,none⟩=some (.int .i64 a0_0):=(blk_cell BK1.out 0).trans rfl
     have hcz16_1:w5.cell? ⟨gb1,1,none⟩=some (.int .i64 a0_1):=(blk_cell BK1.out 1).trans rfl
     have hcz16_2:w5.cell? ⟨gb1,2,none⟩=some (.int .i64 a0_2):=(blk_cell BK1.out 2).trans rfl
     have hcz16_3:w5.cell? ⟨gb1,3,none⟩=some (.int .i64 a0_3):=(blk_cell BK1.out 3).trans rfl
     have hcz16_4:w5.cell? ⟨gb1,4,none⟩=some (.string a0_4):=(blk_cell BK1.out 4).trans rfl
     have hfz16_0:=blk_frozen BK1.out 0
     have hfz16_1:=blk_frozen BK1.out 1
     have hfz16_2:=blk_frozen BK1.out 2
     have hfz16_3:=blk_frozen BK1.out 3
     have hfz16_4:=blk_frozen BK1.out 4
     go_wp2_with (first|((with_reducible refine gate_callee (f:=72) rfl ?_);refine goesL_ (some 9) rfl rfl Tryz.func72 (by kernel_rfl) rfl #[.int .i64 a0_1] rfl (by (try simp only [List.map_toArray,List.map_cons,List.map_nil]);first|done|rfl) ?_;(with_reducible refine (narcissusref02_Register.calls a0_1 true _ A6.out).mono ?_);rintro e w' ⟨rfl,⟨nd,rfl⟩⟩;refine ⟨_,rfl,?_⟩))
     go_meet
     case rel=>exact ⟨_,(true),(by first|rfl|(simp;done)|(simp [*];done)),H',⟨by first|omega|exact Nat.le_refl _⟩,⟨by (with_reducible repeat (first|refine blk_drewN ?_ _|refine blk_drew ?_|refine blk_alloc ?_ _));exact BK1.out⟩,⟨by repeat (first|(with_reducible first|exact HB.out|apply below_alloc|apply pw_below_drewN|apply below_drew1|refine below_set ?_ GE1.out)|exact HB.out)⟩⟩
  ·replace c7:=Bool.eq_false_iff.mpr c7
   subst c7;have H1:(narcissusref02_Right.j0 k a1 a2 true a0_0 a0_1 a0_2 a0_3 a0_4)=some r:=by rw [if_neg (show ¬ (false=true) by decide)] at H;exact H
   clear H;have H:=H1
   clear H1;have H':=Aside0.mk H
   clear H;have hcz17_0:w5.cell? ⟨gb1,0,none⟩=some (.int .i64 a0_0):=(blk_cell BK1.out 0).trans rfl
   have hcz17_1:w5.cell? ⟨gb1,1,none⟩=some (.int .i64 a0_1):=(blk_cell BK1.out 1).trans rfl
   have hcz17_2:w5.cell? ⟨gb1,2,none⟩=some (.int .i64 a0_2):=(blk_cell BK1.out 2).trans rfl
   have hcz17_3:w5.cell? ⟨gb1,3,none⟩=some (.int .i64 a0_3):=(blk_cell BK1.out 3).trans rfl
   have hcz17_4:w5.cell? ⟨gb1,4,none⟩=some (.string a0_4):=(blk_cell BK1.out 4).trans rfl
   have hfz17_0:=blk_frozen BK1.out 0
   have hfz17_1:=blk_frozen BK1.out 1
   have hfz17_2:=blk_frozen BK1.out 2
   have hfz17_3:=blk_frozen BK1.out 3
   have hfz17_4:=blk_frozen BK1.out 4
   go_wp2_with (first|((with_reducible refine gate_callee (f:=72) rfl ?_);refine goesL_ (some 9) rfl rfl Tryz.func72 (by kernel_rfl) rfl #[.int .i64 a0_1] rfl (by (try simp only [List.map_toArray,List.map_cons,List.map_nil]);first|done|rfl) ?_;(with_reducible refine (narcissusref02_Register.calls a0_1 false _ A6.out).mono ?_);rintro e w' ⟨rfl,⟨nd,rfl⟩⟩;refine ⟨_,rfl,?_⟩))
   go_meet
   case rel=>exact ⟨_,(true),(by first|rfl|(simp;done)|(simp [*];done)),H',⟨by first|omega|exact Nat.le_refl _⟩,⟨by (with_reducible repeat (first|refine blk_drewN ?_ _|refine blk_drew ?_|refine blk_alloc ?_ _));exact BK1.out⟩,⟨by repeat (first|(with_reducible first|exact HB.out|apply below_alloc|apply pw_below_drewN|apply below_drew1|refine below_set ?_ GE1.out)|exact HB.out)⟩⟩
 case rest =>
  clear HC4;try clear c1
  try clear p2
  try clear c4
  try clear c7
  try clear c8
  try clear c8b0
  try clear c8b1
  try clear c9
  try clear c9b0
  try clear c9b1
  try clear c12
  try clear c12b0
  try clear c12b1
  try clear c13
  try clear c13b0
  try clear c13b1
  try clear hcz10_0
  try clear hcz10_1
  try clear hcz10_2
  try clear hcz10_3
  try clear hcz10_4
  try clear hcz11_0
  try clear hcz11_1
  try clear hcz11_2
  try clear hcz11_3
  try clear hcz11_4
  try clear hcz14_0
  try clear hcz14_1
  try clear hcz14_2
  try clear hcz14_3
  try clear hcz14_4
  try clear hcz15_0
  try clear hcz15_1
  try clear hcz15_2
  try clear hcz15_3
  try clear hcz15_4
  try clear hcz16_0
  try clear hcz16_1
  try clear hcz16_2
  try clear hcz16_3
  try clear hcz16_4
  try clear hcz17_0
  try clear hcz17_1
  try clear hcz17_2
  try clear hcz17_3
  try clear hcz17_4
  try clear hfz10_0
  try clear hfz10_1
  try clear hfz10_2
  try clear hfz10_3
  try clear hfz10_4
  try clear hfz11_0
  try clear hfz11_1
  try clear hfz11_2
  try clear hfz11_3
  try clear hfz11_4
  try clear hfz14_0
  try clear hfz14_1
  try clear hfz14_2
  try clear hfz14_3
  try clear hfz14_4
  try clear hfz15_0
  try clear hfz15_1
  try clear hfz15_2
  try clear hfz15_3
  try clear hfz15_4
  try clear hfz16_0
  try clear hfz16_1
  try clear hfz16_2
  try clear hfz16_3
  try clear hfz16_4
  try clear hfz17_0
  try clear hfz17_1
  try clear hfz17_2
  try clear hfz17_3
  try clear hfz17_4
  obtain ⟨kq,x30_3,rfl,HA,HJ3,BK1,HB⟩:=hcut
  cases kq with
  | zero=>exact absurd HA.out (by simp [narcissusref02_Right.j0])
  | succ kj3 =>
   have H:=HA.out
   clear HA;simp only [narcissusref02_Right.j0] at H
   by_cases c18:x30_3=true
   ·subst c18
    have H1:(some false)=some r:=by rw [if_pos rfl] at H;exact H
    clear H;have H:=H1
    clear H1;obtain rfl:=Option.some.inj H
    go_wp2
    go_ret
    exact ⟨by first|rfl|(simp [errW_none,errW_some]<;>rfl)|(simp [*,errW_none,errW_some]<;>rfl),by repeat (first|(with_reducible first|exact HB.out|apply below_alloc|apply pw_below_drewN|apply below_drew1|refine below_set ?_ GE1.out)|exact HB.out)⟩
   ·replace c18:=Bool.eq_false_iff.mpr c18
    subst c18;have H1:(if a0_0=0 then (if a0_2=0 then ((narcissusref01_Valid.f kj3 a0_4).bind fun t3=>(some t3)) else (some false)) else (if a0_0=1 then (narcissusref02_Right.j1 kj3 a1 a2 a0_0 (a0_0 == 1) a0_0 a0_1 a0_2 a0_3 a0_4) else (if a0_0=3 then (narcissusref02_Right.j1 kj3 a1 a2 a0_0 (a0_0 == 3) a0_0 a0_1 a0_2 a0_3 a0_4) else (narcissusref02_Right.j1 kj3 a1 a2 a0_0 (a0_0 == 4) a0_0 a0_1 a0_2 a0_3 a0_4))))=some r:=by rw [if_neg (show ¬ (false=true) by decide)] at H;exact H
    clear H;have H:=H1
    clear H1;by_cases c19:a0_0=0
    ·rw [if_pos c19] at H
     have c19b0:(a0_0 == 0)=true:=beq_iff_eq.mpr c19
     have c19b1:(a0_0 != 0)=false:=bne_eq_false_iff_eq.mpr c19
     clear c19;by_cases c20:a0_2=0
     ·rw [if_pos c20] at H
      have c20b0:(a0_2 == 0)=true:=beq_iff_eq.mpr c20
      have c20b1:(a0_2 != 0)=false:=bne_eq_false_iff_eq.mpr c20
      clear c20;replace H:=Option.bind_eq_some_iff.mp H
      obtain ⟨t3,A210,H⟩:=H
      replace H:(some t3)=some r:=H
      have A21:=Aside0.mk A210
      clear A210;obtain rfl:=Option.some.inj H
      have hcz22_0:wc.cell? ⟨gb1,0,none⟩=some (.int .i64 a0_0):=(blk_cell BK1.out 0).trans rfl
      have hcz22_1:wc.cell? ⟨gb1,1,none⟩=some (.int .i64 a0_1):=(blk_cell BK1.out 1).trans rfl
      have hcz22_2:wc.cell? ⟨gb1,2,none⟩=some (.int .i64 a0_2):=(blk_cell BK1.out 2).trans rfl
      have hcz22_3:wc.cell? ⟨gb1,3,none⟩=some (.int .i64 a0_3):=(blk_cell BK1.out 3).trans rfl
      have hcz22_4:wc.cell? ⟨gb1,4,none⟩=some (.string a0_4):=(blk_cell BK1.out 4).trans rfl
      have hfz22_0:=blk_frozen BK1.out 0
      have hfz22_1:=blk_frozen BK1.out 1
      have hfz22_2:=blk_frozen BK1.out 2
      have hfz22_3:=blk_frozen BK1.out 3
      have hfz22_4:=blk_frozen BK1.out 4
      go_wp2_with (first|(go_at_call 9;(with_reducible refine (narcissusref01_Valid.calls kj3 a0_4 t3 _ A21.out).mono ?_);rintro e w' ⟨rfl,⟨nd,rfl⟩⟩))
      go_ret
      exact ⟨by first|rfl|(simp [errW_none,errW_some]<;>rfl)|(simp [*,errW_none,errW_some]<;>rfl),by repeat (first|(with_reducible first|exact HB.out|apply below_alloc|apply pw_below_drewN|apply below_drew1|refine below_set ?_ GE1.out)|exact HB.out)⟩
     ·rw [if_neg c20] at H
      have c20b0:(a0_2 == 0)=false:=beq_eq_false_iff_ne.mpr c20
      have c20b1:(a0_2 != 0)=true:=bne_iff_ne.mpr c20
      obtain rfl:=Option.some.inj H
      have hcz23_0:wc.cell? ⟨gb1,0,none⟩=some (.int .i64 a0_0):=(blk_cell BK1.out 0).trans rfl
      have hcz23_1:wc.cell? ⟨gb1,1,none⟩=some (.int .i64 a0_1):=(blk_cell BK1.out 1).trans rfl
      have hcz23_2:wc.cell? ⟨gb1,2,none⟩=some (.int .i64 a0_2):=(blk_cell BK1.out 2).trans rfl
      have hcz23_3:wc.cell? ⟨gb1,3,none⟩=some (.int .i64 a0_3):=(blk_cell BK1.out 3).trans rfl
      have hcz23_4:wc.cell? ⟨gb1,4,none⟩=some (.string a0_4):=(blk_cell BK1.out 4).trans rfl
      have hfz23_0:=blk_frozen BK1.out 0
      have hfz23_1:=blk_frozen BK1.out 1
      have hfz23_2:=blk_frozen BK1.out 2
      have hfz23_3:=blk_frozen BK1.out 3
      have hfz23_4:=blk_frozen BK1.out 4
      go_wp2
      go_ret
      exact ⟨by first|rfl|(simp [errW_none,errW_some]<;>rfl)|(simp [*,errW_none,errW_some]<;>rfl),by repeat (first|(with_reducible first|exact HB.out|apply below_alloc|apply pw_below_drewN|apply below_drew1|refine below_set ?_ GE1.out)|exact HB.out)⟩
    ·rw [if_neg c19] at H
     have c19b0:(a0_0 == 0)=false:=beq_eq_false_iff_ne.mpr c19
     have c19b1:(a0_0 != 0)=true:=bne_iff_ne.mpr c19
     have HC24:=Aside0.mk H
     clear H;have hcz25_0:wc.cell? ⟨gb1,0,none⟩=some (.int .i64 a0_0):=(blk_cell BK1.out 0).trans rfl
     have hcz25_1:wc.cell? ⟨gb1,1,none⟩=some (.int .i64 a0_1):=(blk_cell BK1.out 1).trans rfl
     have hcz25_2:wc.cell? ⟨gb1,2,none⟩=some (.int .i64 a0_2):=(blk_cell BK1.out 2).trans rfl
     have hcz25_3:wc.cell? ⟨gb1,3,none⟩=some (.int .i64 a0_3):=(blk_cell BK1.out 3).trans rfl
     have hcz25_4:wc.cell? ⟨gb1,4,none⟩=some (.string a0_4):=(blk_cell BK1.out 4).trans rfl
     have hfz25_0:=blk_frozen BK1.out 0
     have hfz25_1:=blk_frozen BK1.out 1
     have hfz25_2:=blk_frozen BK1.out 2
     have hfz25_3:=blk_frozen BK1.out 3
     have hfz25_4:=blk_frozen BK1.out 4
     go_upto_if 43 with (fail)
     go_cut [43] (fun v43 wc => ∃ (kq:Nat) (x43_23:Bool),v43 = .bool x43_23∧Aside0 (narcissusref02_Right.j1 kq a1 a2 a0_0 x43_23 a0_0 a0_1 a0_2 a0_3 a0_4=some r)∧Aside0 (kq≤kj3)∧Aside0 (wc.heap[gb1]? = some (.cells #[.int .i64 a0_0,.int .i64 a0_1,.int .i64 a0_2,.int .i64 a0_3,.string a0_4] 42 (0,0)))∧Aside0 (Below w.heap.size w wc))
     case first =>
      have H:=HC24.out
      clear HC24;by_cases c26:a0_0=1
      ·rw [if_pos c26] at H
       have c26b0:(a0_0 == 1)=true:=beq_iff_eq.mpr c26
       have c26b1:(a0_0 != 1)=false:=bne_eq_false_iff_eq.mpr c26
       clear c26;(first|rw [c26b0]|(simp only [i64_w,i32_w];rw [c26b0])|skip)
       have H':=Aside0.mk H
       clear H;go_wp2
       go_meet
       case rel=>exact ⟨_,((a0_0 == 1)),(by first|rfl|(simp;done)|(simp [*];done)),H',⟨by have:=HJ3.out;first|omega|exact Nat.le_refl _⟩,⟨by (with_reducible repeat (first|refine blk_drewN ?_ _|refine blk_drew ?_|refine blk_alloc ?_ _));exact BK1.out⟩,⟨by repeat (first|(with_reducible first|exact HB.out|apply below_alloc|apply pw_below_drewN|apply below_drew1|refine below_set ?_ GE1.out)|exact HB.out)⟩⟩
      ·rw [if_neg c26] at H
       have c26b0:(a0_0 == 1)=false:=beq_eq_false_iff_ne.mpr c26
       have c26b1:(a0_0 != 1)=true:=bne_iff_ne.mpr c26
       (first|rw [c26b0]|(simp only [i64_w,i32_w];rw [c26b0])|skip)
       by_cases c27:a0_0=3
       ·rw [if_pos c27] at H
        have c27b0:(a0_0 == 3)=true:=beq_iff_eq.mpr c27
        have c27b1:(a0_0 != 3)=false:=bne_eq_false_iff_eq.mpr c27
        clear c27;have H':=Aside0.mk H
        clear H;go_wp2
        go_meet
        case rel=>exact ⟨_,((a0_0 == 3)),(by first|rfl|(simp;done)|(simp [*];done)),H',⟨by have:=HJ3.out;first|omega|exact Nat.le_refl _⟩,⟨by (with_reducible repeat (first|refine blk_drewN ?_ _|refine blk_drew ?_|refine blk_alloc ?_ _));exact BK1.out⟩,⟨by repeat (first|(with_reducible first|exact HB.out|apply below_alloc|apply pw_below_drewN|apply below_drew1|refine below_set ?_ GE1.out)|exact HB.out)⟩⟩
       ·rw [if_neg c27] at H
        have c27b0:(a0_0 == 3)=false:=beq_eq_false_iff_ne.mpr c27
        have c27b1:(a0_0 != 3)=true:=bne_iff_ne.mpr c27
        have H':=Aside0.mk H
        clear H;go_wp2
        go_meet
        case rel=>exact ⟨_,((a0_0 == 4)),(by first|rfl|(simp;done)|(simp [*];done)),H',⟨by have:=HJ3.out;first|omega|exact Nat.le_refl _⟩,⟨by (with_reducible repeat (first|refine blk_drewN ?_ _|refine blk_drew ?_|refine blk_alloc ?_ _));exact BK1.out⟩,⟨by repeat (first|(with_reducible first|exact HB.out|apply below_alloc|apply pw_below_drewN|apply below_drew1|refine below_set ?_ GE1.out)|exact HB.out)⟩⟩
     case rest =>
      clear HC24;try clear c1
      try clear c2
      try clear p2
      try clear c4
      try clear c7
      try clear c8
      try clear c8b0
      try clear c8b1
      try clear c9
      try clear c9b0
      try clear c9b1
      try clear c12
      try clear c12b0
      try clear c12b1
      try clear c13
      try clear c13b0
      try clear c13b1
      try clear c18
      try clear c19
      try clear c19b0
      try clear c19b1
      try clear c20
      try clear c20b0
      try clear c20b1
      try clear c26
      try clear c26b0
      try clear c26b1
      try clear c27
      try clear c27b0
      try clear c27b1
      try clear hcz10_0
      try clear hcz10_1
      try clear hcz10_2
      try clear hcz10_3
      try clear hcz10_4
      try clear hcz11_0
      try clear hcz11_1
      try clear hcz11_2
      try clear hcz11_3
      try clear hcz11_4
      try clear hcz14_0
      try clear hcz14_1
      try clear hcz14_2
      try clear hcz14_3
      try clear hcz14_4
      try clear hcz15_0
      try clear hcz15_1
      try clear hcz15_2
      try clear hcz15_3
      try clear hcz15_4
      try clear hcz16_0
      try clear hcz16_1
      try clear hcz16_2
      try clear hcz16_3
      try clear hcz16_4
      try clear hcz17_0
      try clear hcz17_1
      try clear hcz17_2
      try clear hcz17_3
      try clear hcz17_4
      try clear hcz22_0
      try clear hcz22_1
      try clear hcz22_2
      try clear hcz22_3
      try clear hcz22_4
      try clear hcz23_0
      try clear hcz23_1
      try clear hcz23_2
      try clear hcz23_3
      try clear hcz23_4
      try clear hcz25_0
      try clear hcz25_1
      try clear hcz25_2
      try clear hcz25_3
      try clear hcz25_4
      try clear hfz10_0
      try clear hfz10_1
      try clear hfz10_2
      try clear hfz10_3
      try clear hfz10_4
      try clear hfz11_0
      try clear hfz11_1
      try clear hfz11_2
      try clear hfz11_3
      try clear hfz11_4
      try clear hfz14_0
      try clear hfz14_1
      try clear hfz14_2
      try clear hfz14_3
      try clear hfz14_4
      try clear hfz15_0
      try clear hfz15_1
      try clear hfz15_2
      try clear hfz15_3
      try clear hfz15_4
      try clear hfz16_0
      try clear hfz16_1
      try clear hfz16_2
      try clear hfz16_3
      try clear hfz16_4
      try clear hfz17_0
      try clear hfz17_1
      try clear hfz17_2
      try clear hfz17_3
      try clear hfz17_4
      try clear hfz22_0
      try clear hfz22_1
      try clear hfz22_2
      try clear hfz22_3
      try clear hfz22_4
      try clear hfz23_0
      try clear hfz23_1
      try clear hfz23_2
      try clear hfz23_3
      try clear hfz23_4
      try clear hfz25_0
      try clear hfz25_1
      try clear hfz25_2
      try clear hfz25_3
      try clear hfz25_4
      try clear p2
      obtain ⟨kq,x43_23,rfl,HA,HJ23,BK1,HB⟩:=hcut
      cases kq with
      | zero=>exact absurd HA.out (by simp [narcissusref02_Right.j1])
      | succ kj23 =>
       have H:=HA.out
       clear HA;simp only [narcissusref02_Right.j1] at H
       by_cases c28:x43_23=true
       ·subst c28
        have H1:((narcissusref02_Register.f a0_2).bind fun t4=>(some t4))=some r:=by rw [if_pos rfl] at H;exact H
        clear H;have H:=H1
        clear H1;replace H:=Option.bind_eq_some_iff.mp H
        obtain ⟨t4,A290,H⟩:=H
        replace H:(some t4)=some r:=H
        have A29:=Aside0.mk A290
        clear A290;obtain rfl:=Option.some.inj H
        have hcz30_0:wc.cell? ⟨gb1,0,none⟩=some (.int .i64 a0_0):=(blk_cell BK1.out 0).trans rfl
        have hcz30_1:wc.cell? ⟨gb1,1,none⟩=some (.int .i64 a0_1):=(blk_cell BK1.out 1).trans rfl
        have hcz30_2:wc.cell? ⟨gb1,2,none⟩=some (.int .i64 a0_2):=(blk_cell BK1.out 2).trans rfl
        have hcz30_3:wc.cell? ⟨gb1,3,none⟩=some (.int .i64 a0_3):=(blk_cell BK1.out 3).trans rfl
        have hcz30_4:wc.cell? ⟨gb1,4,none⟩=some (.string a0_4):=(blk_cell BK1.out 4).trans rfl
        have hfz30_0:=blk_frozen BK1.out 0
        have hfz30_1:=blk_frozen BK1.out 1
        have hfz30_2:=blk_frozen BK1.out 2
        have hfz30_3:=blk_frozen BK1.out 3
        have hfz30_4:=blk_frozen BK1.out 4
        go_wp2_with (first|((with_reducible refine gate_callee (f:=72) rfl ?_);refine goesL_ (some 49) rfl rfl Tryz.func72 (by kernel_rfl) rfl #[.int .i64 a0_2] rfl (by (try simp only [List.map_toArray,List.map_cons,List.map_nil]);first|done|rfl) ?_;(with_reducible refine (narcissusref02_Register.calls a0_2 t4 _ A29.out).mono ?_);rintro e w' ⟨rfl,⟨nd,rfl⟩⟩;refine ⟨_,rfl,?_⟩))
        go_ret
        exact ⟨by first|rfl|(simp [errW_none,errW_some]<;>rfl)|(simp [*,errW_none,errW_some]<;>rfl),by repeat (first|(with_reducible first|exact HB.out|apply below_alloc|apply pw_below_drewN|apply below_drew1|refine below_set ?_ GE1.out)|exact HB.out)⟩
       ·replace c28:=Bool.eq_false_iff.mpr c28
        subst c28;have H1:(if a0_0=2 then ((narcissusref02_Register.f a0_2).bind fun t5=>(if t5=true then ((narcissusref02_Register.f a0_3).bind fun t6=>(some t6)) else (some false))) else (if a0_0=5 then (if a0_2 ≥ (wrap64 (-a1)) then (some (decide (a0_2≤(wrap64 (a2 - a1))))) else (some false)) else (some false)))=some r:=by rw [if_neg (show ¬ (false=true) by decide)] at H;exact H
        clear H;have H:=H1
        clear H1;by_cases c31:a0_0=2
        ·rw [if_pos c31] at H
         have c31b0:(a0_0 == 2)=true:=beq_iff_eq.mpr c31
         have c31b1:(a0_0 != 2)=false:=bne_eq_false_iff_eq.mpr c31
         clear c31;replace H:=Option.bind_eq_some_iff.mp H
         obtain ⟨t5,A320,H⟩:=H
         replace H:(if t5=true then ((narcissusref02_Register.f a0_3).bind fun t6=>(some t6)) else (some false))=some r:=H
         have A32:=Aside0.mk A320
         clear A320;by_cases c33:t5=true
         ·subst c33
          have H1:((narcissusref02_Register.f a0_3).bind fun t6=>(some t6))=some r:=by rw [if_pos rfl] at H;exact H
          clear H;have H:=H1
          clear H1;replace H:=Option.bind_eq_some_iff.mp H
          obtain ⟨t6,A340,H⟩:=H
          replace H:(some t6)=some r:=H
          have A34:=Aside0.mk A340
          clear A340;obtain rfl:=Option.some.inj H
          have hcz35_0:wc.cell? ⟨gb1,0,none⟩=some (.int .i64 a0_0):=(blk_cell BK1.out 0).trans rfl
          have hcz35_1:wc.cell? ⟨gb1,1,none⟩=some (.int .i64 a0_1):=(blk_cell BK1.out 1).trans rfl
          have hcz35_2:wc.cell? ⟨gb1,2,none⟩=some (.int .i64 a0_2):=(blk_cell BK1.out 2).trans rfl
          have hcz35_3:wc.cell? ⟨gb1,3,none⟩=some (.int .i64 a0_3):=(blk_cell BK1.out 3).trans rfl
          have hcz35_4:wc.cell? ⟨gb1,4,none⟩=some (.string a0_4):=(blk_cell BK1.out 4).trans rfl
          have hfz35_0:=blk_frozen BK1.out 0
          have hfz35_1:=blk_frozen BK1.out 1
          have hfz35_2:=blk_frozen BK1.out 2
          have hfz35_3:=blk_frozen BK1.out 3
          have hfz35_4:=blk_frozen BK1.out 4
          go_wp2_with (first|((with_reducible refine gate_callee (f:=72) rfl ?_);refine goesL_ (some 54) rfl rfl Tryz.func72 (by kernel_rfl) rfl #[.int .i64 a0_2] rfl (by (try simp only [List.map_toArray,List.map_cons,List.map_nil]);first|done|rfl) ?_;(with_reducible refine (narcissusref02_Register.calls a0_2 true _ A32.out).mono ?_);rintro e w' ⟨rfl,⟨nd,rfl⟩⟩;refine ⟨_,rfl,?_⟩)|(go_at_call 72;(with_reducible refine (narcissusref02_Register.calls a0_3 t6 _ A34.out).mono ?_);rintro e w' ⟨rfl,⟨nd,rfl⟩⟩))
          go_ret
          exact ⟨by first|rfl|(simp [errW_none,errW_some]<;>rfl)|(simp [*,errW_none,errW_some]<;>rfl),by repeat (first|(with_reducible first|exact HB.out|apply below_alloc|apply pw_below_drewN|apply below_drew1|refine below_set ?_ GE1.out)|exact HB.out)⟩
         ·replace c33:=Bool.eq_false_iff.mpr c33
          subst c33;have H1:(some false)=some r:=by rw [if_neg (show ¬ (false=true) by decide)] at H;exact H
          clear H;have H:=H1
          clear H1;obtain rfl:=Option.some.inj H
          have hcz36_0:wc.cell? ⟨gb1,0,none⟩=some (.int .i64 a0_0):=(blk_cell BK1.out 0).trans rfl
          have hcz36_1:wc.cell? ⟨gb1,1,none⟩=some (.int .i64 a0_1):=(blk_cell BK1.out 1).trans rfl
          have hcz36_2:wc.cell? ⟨gb1,2,none⟩=some (.int .i64 a0_2):=(blk_cell BK1.out 2).trans rfl
          have hcz36_3:wc.cell? ⟨gb1,3,none⟩=some (.int .i64 a0_3):=(blk_cell BK1.out 3).trans rfl
          have hcz36_4:wc.cell? ⟨gb1,4,none⟩=some (.string a0_4):=(blk_cell BK1.out 4).trans rfl
          have hfz36_0:=blk_frozen BK1.out 0
          have hfz36_1:=blk_frozen BK1.out 1
          have hfz36_2:=blk_frozen BK1.out 2
          have hfz36_3:=blk_frozen BK1.out 3
          have hfz36_4:=blk_frozen BK1.out 4
          go_wp2_with (first|((with_reducible refine gate_callee (f:=72) rfl ?_);refine goesL_ (some 54) rfl rfl Tryz.func72 (by kernel_rfl) rfl #[.int .i64 a0_2] rfl (by (try simp only [List.map_toArray,List.map_cons,List.map_nil]);first|done|rfl) ?_;(with_reducible refine (narcissusref02_Register.calls a0_2 false _ A32.out).mono ?_);rintro e w' ⟨rfl,⟨nd,rfl⟩⟩;refine ⟨_,rfl,?_⟩))
          go_ret
          exact ⟨by first|rfl|(simp [errW_none,errW_some]<;>rfl)|(simp [*,errW_none,errW_some]<;>rfl),by repeat (first|(with_reducible first|exact HB.out|apply below_alloc|apply pw_below_drewN|apply below_drew1|refine below_set ?_ GE1.out)|exact HB.out)⟩
        ·rw [if_neg c31] at H
         have c31b0:(a0_0 == 2)=false:=beq_eq_false_iff_ne.mpr c31
         have c31b1:(a0_0 != 2)=true:=bne_iff_ne.mpr c31
         by_cases c37:a0_0=5
         ·rw [if_pos c37] at H
          have c37b0:(a0_0 == 5)=true:=beq_iff_eq.mpr c37
          have c37b1:(a0_0 != 5)=false:=bne_eq_false_iff_eq.mpr c37
          clear c37;by_cases c38:a0_2 ≥ (wrap64 (-a1))
          ·rw [if_pos c38] at H
           have c38b0:decide ((wrap64 (-a1))≤a0_2)=true:=decide_eq_true c38
           clear c38;obtain rfl:=Option.some.inj H
           have hcz39_0:wc.cell? ⟨gb1,0,none⟩=some (.int .i64 a0_0):=(blk_cell BK1.out 0).trans rfl
           have hcz39_1:wc.cell? ⟨gb1,1,none⟩=some (.int .i64 a0_1):=(blk_cell BK1.out 1).trans rfl
           have hcz39_2:wc.cell? ⟨gb1,2,none⟩=some (.int .i64 a0_2):=(blk_cell BK1.out 2).trans rfl
           have hcz39_3:wc.cell? ⟨gb1,3,none⟩=some (.int .i64 a0_3):=(blk_cell BK1.out 3).trans rfl
           have hcz39_4:wc.cell? ⟨gb1,4,none⟩=some (.string a0_4):=(blk_cell BK1.out 4).trans rfl
           have hfz39_0:=blk_frozen BK1.out 0
           have hfz39_1:=blk_frozen BK1.out 1
           have hfz39_2:=blk_frozen BK1.out 2
           have hfz39_3:=blk_frozen BK1.out 3
           have hfz39_4:=blk_frozen BK1.out 4
           go_wp2
           go_ret
           exact ⟨by first|rfl|(simp [errW_none,errW_some]<;>rfl)|(simp [*,errW_none,errW_some]<;>rfl),by repeat (first|(with_reducible first|exact HB.out|apply below_alloc|apply pw_below_drewN|apply below_drew1|refine below_set ?_ GE1.out)|exact HB.out)⟩
          ·rw [if_neg c38] at H
           have c38b0:decide ((wrap64 (-a1))≤a0_2)=false:=decide_eq_false c38
           clear c38;obtain rfl:=Option.some.inj H
           have hcz40_0:wc.cell? ⟨gb1,0,none⟩=some (.int .i64 a0_0):=(blk_cell BK1.out 0).trans rfl
           have hcz40_1:wc.cell? ⟨gb1,1,none⟩=some (.int .i64 a0_1):=(blk_cell BK1.out 1).trans rfl
           have hcz40_2:wc.cell? ⟨gb1,2,none⟩=some (.int .i64 a0_2):=(blk_cell BK1.out 2).trans rfl
           have hcz40_3:wc.cell? ⟨gb1,3,none⟩=some (.int .i64 a0_3):=(blk_cell BK1.out 3).trans rfl
           have hcz40_4:wc.cell? ⟨gb1,4,none⟩=some (.string a0_4):=(blk_cell BK1.out 4).trans rfl
           have hfz40_0:=blk_frozen BK1.out 0
           have hfz40_1:=blk_frozen BK1.out 1
           have hfz40_2:=blk_frozen BK1.out 2
           have hfz40_3:=blk_frozen BK1.out 3
           have hfz40_4:=blk_frozen BK1.out 4
           go_wp2
           go_ret
           exact ⟨by first|rfl|(simp [errW_none,errW_some]<;>rfl)|(simp [*,errW_none,errW_some]<;>rfl),by repeat (first|(with_reducible first|exact HB.out|apply below_alloc|apply pw_below_drewN|apply below_drew1|refine below_set ?_ GE1.out)|exact HB.out)⟩
         ·rw [if_neg c37] at H
          have c37b0:(a0_0 == 5)=false:=beq_eq_false_iff_ne.mpr c37
          have c37b1:(a0_0 != 5)=true:=bne_iff_ne.mpr c37
          obtain rfl:=Option.some.inj H
          go_wp2
          go_ret
          exact ⟨by first|rfl|(simp [errW_none,errW_some]<;>rfl)|(simp [*,errW_none,errW_some]<;>rfl),by repeat (first|(with_reducible first|exact HB.out|apply below_alloc|apply pw_below_drewN|apply below_drew1|refine below_set ?_ GE1.out)|exact HB.out)⟩
end
section
attribute [local go_sem] max2_int min2_int max_two min_two max_three min_three max_four min_four
mutual
def narcissusref02_Valid.j0:Nat→List (S42)→Bool→Option (Bool)
 | 0,_,_=>none
 | k+1,x0,x11=>if x11=true then (some false) else (narcissusref02_Valid.l0 k x0 0)
def narcissusref02_Valid.l0:Nat→List (S42)→Int→Option (Bool)
 | 0,_,_=>none
 | k+1,x0,x3=>if x3<(x0.length:Int) then (if 0≤x3 then ((narcissusref02_Right.f k ((rd_T42 x0 x3).f0) ((rd_T42 x0 x3).f1) ((rd_T42 x0 x3).f2) ((rd_T42 x0 x3).f3) ((rd_T42 x0 x3).f4) x3 (x0.length:Int)).bind fun t3=>(if t3=true then (narcissusref02_Valid.l0 k x0 (wrap64 (x3+1))) else (some false))) else (none)) else (some true)
end
def narcissusref02_Valid.f (k:Nat) (l0:List (S42)):Option (Bool):=if (l0.length:Int) > 4000 then (narcissusref02_Valid.j0 k l0 true) else ((narcissusref02_Trees.f k l0).bind fun t1=>(narcissusref02_Valid.j0 k l0 (decide (t1 > 2000000))))
theorem narcissusref02_Valid.mono_l : ∀ k,(∀ y0 y1,LeO (narcissusref02_Valid.j0 k y0 y1) (narcissusref02_Valid.j0 (k+1) y0 y1))∧(∀ y0 y1,LeO (narcissusref02_Valid.l0 k y0 y1) (narcissusref02_Valid.l0 (k+1) y0 y1))
 | 0=>⟨fun _ _ r h=>by simp [narcissusref02_Valid.j0] at h,fun _ _ r h=>by simp [narcissusref02_Valid.l0] at h⟩
 | k+1=>by
  obtain ⟨ih0,ih1⟩:=narcissusref02_Valid.mono_l k
  refine ⟨?_,?_⟩
  ·intro y0 y1
   unfold narcissusref02_Valid.j0
   repeat' first
   | (with_reducible exact ih0 _ _)
   | (with_reducible exact ih1 _ _)
   | (with_reducible exact narcissusref02_Right.mono _ _ _ _ _ _ _ _)
   | (with_reducible exact narcissusref02_Trees.mono _ _)
   | (with_reducible exact LeO.refl _)
   | (with_reducible exact LeO.none _)
   | (with_reducible refine LeO.ite ?_ ?_)
   | (with_reducible refine LeO.bind ?_ (fun _=>?_))
   | exact ih0 _ _
   | exact ih1 _ _
   | exact narcissusref02_Right.mono _ _ _ _ _ _ _ _
   | exact narcissusref02_Trees.mono _ _
   | exact LeO.none _
   | refine LeO.ite ?_ ?_
   | refine LeO.bind ?_ (fun _=>?_)
  ·intro y0 y1
   unfold narcissusref02_Valid.l0
   repeat' first
   | (with_reducible exact ih0 _ _)
   | (with_reducible exact ih1 _ _)
   | (with_reducible exact narcissusref02_Right.mono _ _ _ _ _ _ _ _)
   | (with_reducible exact narcissusref02_Trees.mono _ _)
   | (with_reducible exact LeO.refl _)
   | (with_reducible exact LeO.none _)
   | (with_reducible refine LeO.ite ?_ ?_)
   | (with_reducible refine LeO.bind ?_ (fun _=>?_))
   | exact ih0 _ _
   | exact ih1 _ _
   | exact narcissusref02_Right.mono _ _ _ _ _ _ _ _
   | exact narcissusref02_Trees.mono _ _
   | exact LeO.none _
   | refine LeO.ite ?_ ?_
   | refine LeO.bind ?_ (fun _=>?_)
theorem narcissusref02_Valid.mono : ∀ a0 k,LeO (narcissusref02_Valid.f k a0) (narcissusref02_Valid.f (k+1) a0):=by
 intro a0 k
 obtain ⟨ih0,ih1⟩:=narcissusref02_Valid.mono_l k
 unfold narcissusref02_Valid.f
 repeat' first
   | (with_reducible exact ih0 _ _)
   | (with_reducible exact ih1 _ _)
   | (with_reducible exact narcissusref02_Right.mono _ _ _ _ _ _ _ _)
   | (with_reducible exact narcissusref02_Trees.mono _ _)
   | (with_reducible exact LeO.refl _)
   | (with_reducible exact LeO.none _)
   | (with_reducible refine LeO.ite ?_ ?_)
   | (with_reducible refine LeO.bind ?_ (fun _=>?_))
   | exact ih0 _ _
   | exact ih1 _ _
   | exact narcissusref02_Right.mono _ _ _ _ _ _ _ _
   | exact narcissusref02_Trees.mono _ _
   | exact LeO.none _
   | refine LeO.ite ?_ ?_
   | refine LeO.bind ?_ (fun _=>?_)
set_option maxHeartbeats 8000000 in
set_option maxRecDepth 100000 in
theorem narcissusref02_Valid.calls (k:Nat) (A0:Option Addr) (c0:Nat) (l0:List (S42)) (r:Bool) (w:World) (hr0:Kd.C k42 w A0 l0.length l0) (hc0:l0.length≤c0) (h:narcissusref02_Valid.f k l0=some r) :
  Calls Tryz.prog 15 #[.slice A0 l0.length c0] w fun e w'=>e = .returned (.bool r)∧Below w.heap.size w w':=by
 have hu42:=Tryz.underlying42
 have HR0:=Aside0.mk hr0
 have HC0:=Aside0.mk hc0
 clear hr0 hc0;have HB:=Aside0.mk (Below.refl w.heap.size w)
 have H:(if (l0.length:Int) > 4000 then (narcissusref02_Valid.j0 k l0 true) else ((narcissusref02_Trees.f k l0).bind fun t1=>(narcissusref02_Valid.j0 k l0 (decide (t1 > 2000000)))))=some r:=h
 clear h;have HC2:=Aside0.mk H
 clear H;go_enter Tryz.func15,Tryz.ntmps15
 go_upto_region 1 with (fail)
 go_cut [11] (fun v11 wc => ∃ (kq:Nat) (x11_1:Bool),v11 = .bool x11_1∧Aside0 (narcissusref02_Valid.j0 kq l0 x11_1=some r)∧Aside0 (kq≤k)∧Aside0 (Below w.heap.size w wc))
 case first =>
  have H:=HC2.out
  clear HC2;by_cases c3:(l0.length:Int) > 4000
  ·rw [if_pos c3] at H
   have c3b0:decide (4000<(l0.length:Int))=true:=decide_eq_true c3
   have c3b1:decide (4000<l0.length)=true:=decide_eq_true (by omega)
   clear c3;(first|rw [c3b0]|(simp only [i64_w,i32_w];rw [c3b0])|skip)
   have H':=Aside0.mk H
   clear H;go_wp2
   go_meet
   case rel=>exact ⟨_,(true),(by first|rfl|(simp;done)|(simp [*];done)),H',⟨by first|omega|exact Nat.le_refl _⟩,⟨by repeat (first|(with_reducible first|exact HB.out|apply below_alloc|apply pw_below_drewN|apply below_drew1)|exact HB.out)⟩⟩
  ·rw [if_neg c3] at H
   have c3b0:decide (4000<(l0.length:Int))=false:=decide_eq_false c3
   have c3b1:decide (4000<l0.length)=false:=decide_eq_false (by omega)
   clear c3;(first|rw [c3b0]|(simp only [i64_w,i32_w];rw [c3b0])|skip)
   replace H:=Option.bind_eq_some_iff.mp H
   obtain ⟨t1,A40,H⟩:=H
   replace H:(narcissusref02_Valid.j0 k l0 (decide (t1 > 2000000)))=some r:=H
   have A4:=Aside0.mk A40
   clear A40;have H':=Aside0.mk H
   clear H;go_wp2_with (first|(go_at_call 39;(with_reducible refine (narcissusref02_Trees.calls k _ _ l0 t1 _ ?side1 ?side2 A4.out).mono ?_);(case side1=>repeat (first|exact (Kd.C_below HR0.out HB.out)|(with_reducible refine Kd.C_alloc ?_ _)|(with_reducible refine Kd.C_drewN ?_ _)|(with_reducible refine Kd.C_drew ?_)));(case side2=>exact HC0.out);rintro e w' ⟨rfl,⟨nd,rfl⟩⟩))
   go_meet
   case rel=>exact ⟨_,(decide (t1 > 2000000)),(by first|rfl|(simp;done)|(simp [*];done)),H',⟨by first|omega|exact Nat.le_refl _⟩,⟨by repeat (first|(with_reducible first|exact HB.out|apply below_alloc|apply pw_below_drewN|apply below_drew1)|exact HB.out)⟩⟩
 case rest =>
  clear HC2;try clear c1
  try clear p2
  try clear c3
  try clear c3b0
  try clear c3b1
  obtain ⟨kq,x11_1,rfl,HA,HJ1,HB⟩:=hcut
  cases kq with
  | zero=>exact absurd HA.out (by simp [narcissusref02_Valid.j0])
  | succ kj1 =>
   have H:=HA.out
   clear HA;simp only [narcissusref02_Valid.j0] at H
   by_cases c5:x11_1=true
   ·subst c5
    have H1:(some false)=some r:=by rw [if_pos rfl] at H;exact H
    clear H;have H:=H1
    clear H1;obtain rfl:=Option.some.inj H
    go_wp2
    go_ret
    exact ⟨by first|rfl|(simp [errW_none,errW_some]<;>rfl)|(simp [*,errW_none,errW_some]<;>rfl),by repeat (first|(with_reducible first|exact HB.out|apply below_alloc|apply pw_below_drewN|apply below_drew1)|exact HB.out)⟩
   ·replace c5:=Bool.eq_false_iff.mpr c5
    subst c5;have H1:(narcissusref02_Valid.l0 kj1 l0 0)=some r:=by rw [if_neg (show ¬ (false=true) by decide)] at H;exact H
    clear H;have H:=H1
    clear H1;have H':=Aside0.mk H
    clear H;go_wp2
    go_loopg [3] kj1 (fun kq v3 w' => ∃ (x3_2:Int),v3 = .int .i64 x3_2∧Aside0 (narcissusref02_Valid.l0 kq l0 x3_2=some r)∧Aside0 (kq≤kj1)∧Aside0 (Below w.heap.size w w'))
    case atStart=>exact ⟨(0),(by first|rfl|(simp;done)|(simp [*];done)),H',⟨Nat.le_refl _⟩,⟨by repeat (first|(with_reducible first|exact HB.out|apply below_alloc|apply pw_below_drewN|apply below_drew1)|exact HB.out)⟩⟩
    case round =>
     clear H';try clear c1
     try clear p2
     try clear c3
     try clear c3b0
     try clear c3b1
     try clear c5
     try clear p2
     obtain ⟨x3_2,rfl,HA,HK2,HB⟩:=hrel
     cases gk with
     | zero=>exact absurd HA.out (by simp [narcissusref02_Valid.l0])
     | succ k2 =>
      have H:=HA.out
      clear HA;simp only [narcissusref02_Valid.l0] at H
      by_cases c6:x3_2<(l0.length:Int)
      ·rw [if_pos c6] at H
       have c6b0:decide (x3_2<(l0.length:Int))=true:=decide_eq_true c6
       clear c6;by_cases c7:0≤x3_2
       ·rw [if_pos c7] at H
        have c7b0:decide (0≤x3_2)=true:=decide_eq_true c7
        clear c7;replace H:=Option.bind_eq_some_iff.mp H
        obtain ⟨t3,A80,H⟩:=H
        replace H:(if t3=true then (narcissusref02_Valid.l0 k2 l0 (wrap64 (x3_2+1))) else (some false))=some r:=H
        have A8:=Aside0.mk A80
        clear A80;by_cases c9:t3=true
        ·subst c9
         have H1:(narcissusref02_Valid.l0 k2 l0 (wrap64 (x3_2+1)))=some r:=by rw [if_pos rfl] at H;exact H
         clear H;have H:=H1
         clear H1;have H':=Aside0.mk H
         clear H;have p2:0≤(x3_2:Int):=of_decide_eq_true (by first|(with_reducible assumption)|assumption)
         have q2:x3_2<(l0.length:Int):=of_decide_eq_true (by first|(with_reducible assumption)|assumption)
         obtain ⟨ad2,e2,hx2_0,hx2_1,hx2_2,hx2_3,hx2_4⟩:=at_T42 HR0.out x3_2 p2 q2
         cases e2
         replace hx2_0:=(HB.out.cell (World.block_lt_of_cell? w _ hx2_0)).trans hx2_0
         replace hx2_1:=(HB.out.cell (World.block_lt_of_cell? w _ hx2_1)).trans hx2_1
         replace hx2_2:=(HB.out.cell (World.block_lt_of_cell? w _ hx2_2)).trans hx2_2
         replace hx2_3:=(HB.out.cell (World.block_lt_of_cell? w _ hx2_3)).trans hx2_3
         replace hx2_4:=(HB.out.cell (World.block_lt_of_cell? w _ hx2_4)).trans hx2_4
         replace p2:=eq_true p2;replace q2:=eq_true q2;go_wp2_with (first|((with_reducible refine gate_callee (f:=40) rfl ?_);refine goesL_ (some 25) rfl rfl Tryz.func40 (by kernel_rfl) rfl #[.agg #[.int .i64 ((rd_T42 l0 x3_2).f0),.int .i64 ((rd_T42 l0 x3_2).f1),.int .i64 ((rd_T42 l0 x3_2).f2),.int .i64 ((rd_T42 l0 x3_2).f3),.string ((rd_T42 l0 x3_2).f4)],.int .i64 x3_2,.int .i64 (l0.length:Int)] rfl (by (try simp only [List.map_toArray,List.map_cons,List.map_nil]);first|done|rfl|(simp only [List.length_drop,List.length_take];rfl)) ?_;(with_reducible refine (narcissusref02_Right.calls k2 ((rd_T42 l0 x3_2).f0) ((rd_T42 l0 x3_2).f1) ((rd_T42 l0 x3_2).f2) ((rd_T42 l0 x3_2).f3) ((rd_T42 l0 x3_2).f4) x3_2 (l0.length:Int) true _ A8.out).mono ?_);rintro e w10 ⟨rfl,hb⟩;refine ⟨_,rfl,?_⟩;have n0_:=Aside0.mk (below_step (by repeat (first|(with_reducible first|exact HB.out|apply below_alloc|apply pw_below_drewN|apply below_drew1)|exact HB.out)) hb);clear HB;have HB:=n0_;clear n0_;(try clear hb);(try clear hb2);(try clear hk);(try clear hi)))
         go_roundg k2
         case measure=>have:=HJ1.out;have:=HK2.out;omega
         case rel=>exact ⟨(wrap64 (x3_2+1)),(by first|rfl|(simp;done)|(simp [*];done)),H',⟨by have:=HJ1.out;have:=HK2.out;omega⟩,⟨by repeat (first|(with_reducible first|exact HB.out|apply below_alloc|apply pw_below_drewN|apply below_drew1)|exact HB.out)⟩⟩
        ·replace c9:=Bool.eq_false_iff.mpr c9
         subst c9;have H1:(some false)=some r:=by rw [if_neg (show ¬ (false=true) by decide)] at H;exact H
         clear H;have H:=H1
         clear H1;obtain rfl:=Option.some.inj H
         have p2:0≤(x3_2:Int):=of_decide_eq_true (by first|(with_reducible assumption)|assumption)
         have q2:x3_2<(l0.length:Int):=of_decide_eq_true (by first|(with_reducible assumption)|assumption)
         obtain ⟨ad2,e2,hx2_0,hx2_1,hx2_2,hx2_3,hx2_4⟩:=at_T42 HR0.out x3_2 p2 q2
         cases e2
         replace hx2_0:=(HB.out.cell (World.block_lt_of_cell? w _ hx2_0)).trans hx2_0
         replace hx2_1:=(HB.out.cell (World.block_lt_of_cell? w _ hx2_1)).trans hx2_1
         replace hx2_2:=(HB.out.cell (World.block_lt_of_cell? w _ hx2_2)).trans hx2_2
         replace hx2_3:=(HB.out.cell (World.block_lt_of_cell? w _ hx2_3)).trans hx2_3
         replace hx2_4:=(HB.out.cell (World.block_lt_of_cell? w _ hx2_4)).trans hx2_4
         replace p2:=eq_true p2;replace q2:=eq_true q2;go_wp2_with (first|((with_reducible refine gate_callee (f:=40) rfl ?_);refine goesL_ (some 25) rfl rfl Tryz.func40 (by kernel_rfl) rfl #[.agg #[.int .i64 ((rd_T42 l0 x3_2).f0),.int .i64 ((rd_T42 l0 x3_2).f1),.int .i64 ((rd_T42 l0 x3_2).f2),.int .i64 ((rd_T42 l0 x3_2).f3),.string ((rd_T42 l0 x3_2).f4)],.int .i64 x3_2,.int .i64 (l0.length:Int)] rfl (by (try simp only [List.map_toArray,List.map_cons,List.map_nil]);first|done|rfl|(simp only [List.length_drop,List.length_take];rfl)) ?_;(with_reducible refine (narcissusref02_Right.calls k2 ((rd_T42 l0 x3_2).f0) ((rd_T42 l0 x3_2).f1) ((rd_T42 l0 x3_2).f2) ((rd_T42 l0 x3_2).f3) ((rd_T42 l0 x3_2).f4) x3_2 (l0.length:Int) false _ A8.out).mono ?_);rintro e w11 ⟨rfl,hb⟩;refine ⟨_,rfl,?_⟩;have n0_:=Aside0.mk (below_step (by repeat (first|(with_reducible first|exact HB.out|apply below_alloc|apply pw_below_drewN|apply below_drew1)|exact HB.out)) hb);clear HB;have HB:=n0_;clear n0_;(try clear hb);(try clear hb2);(try clear hk);(try clear hi)))
         go_ret
         exact ⟨by first|rfl|(simp [errW_none,errW_some]<;>rfl)|(simp [*,errW_none,errW_some]<;>rfl),by repeat (first|(with_reducible first|exact HB.out|apply below_alloc|apply pw_below_drewN|apply below_drew1)|exact HB.out)⟩
       ·rw [if_neg c7] at H
        exact absurd H (by simp)
      ·rw [if_neg c6] at H
       have c6b0:decide (x3_2<(l0.length:Int))=false:=decide_eq_false c6
       clear c6;obtain rfl:=Option.some.inj H
       go_wp2
       go_ret
       exact ⟨by first|rfl|(simp [errW_none,errW_some]<;>rfl)|(simp [*,errW_none,errW_some]<;>rfl),by repeat (first|(with_reducible first|exact HB.out|apply below_alloc|apply pw_below_drewN|apply below_drew1)|exact HB.out)⟩
end
section
attribute [local go_sem] max2_int min2_int max_two min_two max_three min_three max_four min_four
def narcissusref02_Twin.f (l0:List (S42)):Option ((List (S42))):=(some (([]:List (S42)):List (S42))).bind fun y1=>(if y1.length+l0.length<2932031007402 then (some (y1 ++ l0)) else (none))
set_option maxHeartbeats 8000000 in
set_option maxRecDepth 100000 in
theorem narcissusref02_Twin.calls (A0:Option Addr) (c0:Nat) (l0:List (S42)) (r:List (S42)) (w:World) (hr0:Kd.C k42 w A0 l0.length l0) (hc0:l0.length≤c0) (h:narcissusref02_Twin.f l0=some r) :
  Calls Tryz.prog 16 #[.slice A0 l0.length c0] w fun e w' => ∃ v0_:Value,e = .returned (v0_)∧Kd.R k42 42 w' w.heap.size (fun _=>True) v0_ r∧Below w.heap.size w w':=by
 have HR0:=Aside0.mk hr0
 have HC0:=Aside0.mk hc0
 clear hr0 hc0;have HB:=Aside0.mk (Below.refl w.heap.size w)
 have H:((some (([]:List (S42)):List (S42))).bind fun y1=>(if y1.length+l0.length<2932031007402 then (some (y1 ++ l0)) else (none)))=some r:=h
 clear h;obtain ⟨y1,hy1⟩ : ∃ y_:List (S42),y_=(([]:List (S42))):=⟨_,rfl⟩
 replace H:(if y1.length+l0.length<2932031007402 then (some (y1 ++ l0)) else (none))=some r:=by first|(rw [hy1];with_reducible exact H)|(have H2_:=(Option.bind_some _ _).symm.trans H;rw [hy1];with_reducible exact H2_)|(have H2_:=(Option.bind_some _ _).symm.trans H;with_reducible exact H2_)|with_reducible exact H|(rw [hy1];exact H)|exact H
 have Ny1:=Aside0.mk hy1
 clear hy1;by_cases c2:y1.length+l0.length<2932031007402
 ·rw [if_pos c2] at H
  have LMc2:=Aside0.mk c2
  clear c2;obtain ⟨y4,hy4⟩ : ∃ y_:List (S42),y_=(y1 ++ l0):=⟨_,rfl⟩
  replace H:(some y4)=some r:=by first|(rw [hy4];with_reducible exact H)|(have H2_:=(Option.bind_some _ _).symm.trans H;rw [hy4];with_reducible exact H2_)|(have H2_:=(Option.bind_some _ _).symm.trans H;with_reducible exact H2_)|with_reducible exact H|(rw [hy4];exact H)|exact H
  have Ny4:=Aside0.mk hy4
  clear hy4;obtain rfl:=Option.some.inj H
  go_enter Tryz.func16,Tryz.ntmps16
  go_wp2_with (first|((with_reducible refine gate_dst (N:=3) rfl ?_);refine Kd.R_lit k42 _ 42 ?hg (N:=3) ?hd (xs:=([]:List (S42))) (inner:=[]) (ok:=fun _=>True) (okp:=fun _=>True) ?hr ?hp (fun _ hk=>hk) trivial (Below.refl _ _) (Nat.le_refl _) (by simp) ?_;(case hd=>rfl);(case hg=>rfl);(case hr=>first|(go_simp;done)|(go_simp;rfl));(case hp=>exact (Reps.none _ _));intro v2 w3 ho4 hb hg_ hnew_;clear hg_ hnew_;(first|rw [← Ny1.out] at ho4|(simp only [Int.reduceToNat] at ho4;rw [← Ny1.out] at ho4));have n0_:=Aside0.mk (Kd.R_lower ho4 (below_size (by repeat (first|(with_reducible first|exact HB.out|apply below_alloc|apply pw_below_drewN|apply below_drew1)|exact HB.out))));have n1_:=Aside0.mk (below_step (by repeat (first|(with_reducible first|exact HB.out|apply below_alloc|apply pw_below_drewN|apply below_drew1)|exact HB.out)) hb);clear HB;have HO3:=n0_;have HB:=n1_;clear n0_ n1_;clear hb ho4)|((with_reducible refine gate_builtin (b:=.append) (xs:=#[.tmp 3,.tmp 4]) rfl ?_);at_builtin;refine Kd.R_append_rows k42 (w0:=w) w.heap.size rfl (.tmp 3) (.tmp 4) 23 42 (.agg #[(.int .i64 0),(.int .i64 0),(.int .i64 0),(.int .i64 0),(.string ⟨#[]⟩)]) 48 rfl Tryz.underlying23 info42 rfl (by decide) (by omega) v2 y1 l0 _ _ _ (fun _=>True) (fun _=>False) rfl rfl ?aO ?aR (fun _ _ h=>h) (fun _ h=>h.elim) ?aF ?aB ?aS ?aL ?_;(case aR=>repeat (first|exact (Kd.C_below HR0.out HB.out)|(with_reducible refine Kd.C_alloc ?_ _)|(with_reducible refine Kd.C_drewN ?_ _)|(with_reducible refine Kd.C_drew ?_)));(case aB=>exact (by repeat (first|(with_reducible first|exact HB.out|apply below_alloc|apply pw_below_drewN|apply below_drew1)|exact HB.out)));(case aF=>exact (fun _ _=>trivial));(case aO=>exact (by (with_reducible repeat (first|apply Kd.R_alloc|apply Kd.R_drewN|apply Kd.R_drew));exact HO3.out));(case aS=>exact (below_size (by repeat (first|(with_reducible first|exact HB.out|apply below_alloc|apply pw_below_drewN|apply below_drew1)|exact HB.out))));(case aL=>have:=LMc2.out;first|omega|(simp only [lit_size,List.size_toArray,List.length_cons,List.length_nil];omega));intro v5 w5 ho hb hg hat;rw [← Ny4.out] at ho;have n0_:=Aside0.mk (hb);have n1_:=Aside0.mk (ho);clear HB;clear HO3;have HB:=n0_;have HO6:=n1_;clear n0_ n1_;clear ho hb hg hat))
  go_ret
  exact ⟨_,by first|rfl|(simp [errW_none,errW_some]<;>rfl)|(simp [*,errW_none,errW_some]<;>rfl),by (with_reducible repeat (first|apply Kd.R_alloc|apply Kd.R_drewN|apply Kd.R_drew));exact HO6.out,by repeat (first|(with_reducible first|exact HB.out|apply below_alloc|apply pw_below_drewN|apply below_drew1)|exact HB.out)⟩
 ·rw [if_neg c2] at H
  exact absurd H (by simp)
end
end Go.Proofs.YtfckjfoalpkpjaaGreatDoor.C
section
namespace Go.Proofs.YtfckjfoalpkpjaaGreatDoor.Plain
open Go.Proofs.YtfckjfoalpkpjaaGreatDoor.C
open Go.RowKit Go.Proofs.YtfckjfoalpkpjaaGreatDoorW.PrintWords Go.Proofs.YtfckjfoalpkpjaaGreatDoorW.PrintLast Go.Proofs.YtfckjfoalpkpjaaGreatDoorW.PrintMore
theorem bt_at (s:ByteArray) (i:Nat) (h:i<(bl s).length):bt s (i:Int)=(((bl s)[i]).toNat:Int):=by
  have hz:i<s.size:=by rw [← bl_len];exact h
  unfold bt
  rw [dif_pos (by simpa using hz)]
  rfl
theorem byte_eq (c:UInt8) (n:Nat) (hn:n<256):((c.toNat:Int)=(n:Int))↔c=UInt8.ofNat n:=by
  constructor
  · intro h
    have h':c.toNat=n:=by omega
    apply UInt8.toNat_inj.1
    rw [h']
    simp
    omega
  · intro h
    rw [h]
    simp
    omega
theorem byte48 (c:UInt8):((c.toNat:Int)=48)↔c=48:=byte_eq c 48 (by decide)
theorem byte49 (c:UInt8):((c.toNat:Int)=49)↔c=49:=byte_eq c 49 (by decide)
theorem refEnd_step (s:ByteArray) (hz:s.size≤2000000) (k p o:Nat) (hlt:p<(bl s).length) (ho:1≤o) (ho2:o≤2000002) :
    narcissusref01_End.l0 (k+2) s (p:Int) (o:Int)=if (bl s)[p]=48 then narcissusref01_End.l0 k s ((p+1:Nat):Int) ((o - 1:Nat):Int) else if (bl s)[p]=49 then narcissusref01_End.l0 k s ((p+1:Nat):Int) ((o+1:Nat):Int) else some (-1):=by
  have hlt2:p<s.size:=by rw [← bl_len];exact hlt
  have w1:wrap64 ((p:Int)+1)=((p+1:Nat):Int):=wrap_small (by omega) (by omega)
  have w2:wrap64 ((o:Int)+1)=((o+1:Nat):Int):=wrap_small (by omega) (by omega)
  have w3:wrap64 ((o:Int) - 1)=((o - 1:Nat):Int):=by rw [show ((o - 1:Nat):Int)=(o:Int) - 1 from by omega];exact wrap_small (by omega) (by omega)
  have hb:=bt_at s p hlt
  generalize (bl s)[p]=c at *
  rw [narcissusref01_End.l0,if_pos (by omega),if_neg (by omega),if_pos (by omega),if_pos (by omega),hb]
  have hj : ∀ b,narcissusref01_End.j1 (k+1) s (p:Int) (o:Int) b=if b=true then some (-1) else if (c.toNat:Int)=49 then narcissusref01_End.l0 k s ((p+1:Nat):Int) ((o+1:Nat):Int) else narcissusref01_End.l0 k s ((p+1:Nat):Int) ((o - 1:Nat):Int):=by
    intro b
    cases b with
    | true=>rw [narcissusref01_End.j1,if_pos rfl,if_pos rfl]
    | false =>
      rw [narcissusref01_End.j1]
      simp only [Bool.false_eq_true,if_false]
      rw [if_pos (by omega),if_pos (by omega),hb,w1,w2,w3]
  rw [hj,hj]
  by_cases h48:c=48
  · rw [if_pos ((byte48 _).2 h48),if_pos h48,if_neg (by decide),if_neg (by rw [h48];decide)]
  · rw [if_neg (fun h=>h48 ((byte48 _).1 h)),if_neg h48]
    by_cases h49:c=49
    · rw [if_neg (by rw [(byte49 _).2 h49];decide),if_pos ((byte49 _).2 h49),if_pos h49]
    · rw [if_pos (bne_iff_ne.2 (fun h=>h49 ((byte49 _).1 h))),if_neg h49]
theorem refEnd_l (s:ByteArray) (hz:s.size≤2000000) : ∀ (d k p o:Nat),s.size - p=d→p≤s.size→o≤p+1→2 * d+2<k →
    narcissusref01_End.l0 k s (p:Int) (o:Int)=some (if o=0 then (p:Int) else match endL ((bl s).drop p) o p with|some q=>(q:Int)|none => -1)
  | d,k,p,o,hd,hp,ho,hk=>by
    obtain ⟨k,rfl⟩ : ∃ m,k=m+2:=⟨k - 2,by omega⟩
    by_cases h0:o=0
    · rw [narcissusref01_End.l0,if_neg (by omega),if_pos h0]
    · rw [if_neg h0]
      by_cases hlt:p<s.size
      · have hlt':p<(bl s).length:=by rw [bl_len];exact hlt
        have hd2:(bl s).drop p=(bl s)[p] :: (bl s).drop (p+1):=List.drop_eq_getElem_cons hlt'
        have i1:=refEnd_l s hz (s.size - (p+1)) k (p+1) (o - 1) rfl (by omega) (by omega) (by omega)
        have i2:=refEnd_l s hz (s.size - (p+1)) k (p+1) (o+1) rfl (by omega) (by omega) (by omega)
        rw [refEnd_step s hz k p o hlt' (by omega) (by omega),hd2,i1,i2]
        simp only [endL]
        generalize (bl s)[p]=c at *
        by_cases h48:c=48
        · rw [if_pos h48,if_pos h48]
          by_cases h1:o=1
          · rw [if_pos (by omega),if_pos h1]
          · rw [if_neg (by omega),if_neg h1]
        · rw [if_neg h48,if_neg h48]
          by_cases h49:c=49
          · rw [if_pos h49,if_pos h49,if_neg (by omega)]
          · rw [if_neg h49,if_neg h49]
      · rw [narcissusref01_End.l0,if_pos (by omega),if_pos (by omega),narcissusref01_End.j1,if_pos rfl,List.drop_eq_nil_of_le (by rw [bl_len];omega)]
        rfl
  termination_by d=>d
theorem refValid_tells (s:ByteArray) (k:Nat) (hk:4000010≤k) : ∃ v,narcissusref01_Valid.f k s=some v∧(v=true↔ValidT s):=by
  unfold narcissusref01_Valid.f ValidT
  by_cases hz:(s.size:Int)≤2000000
  · rw [if_pos hz]
    unfold narcissusref01_End.f
    have:=refEnd_l s (by omega) s.size k 0 1 rfl (by omega) (by omega) (by omega)
    rw [show ((1:Nat):Int)=1 from rfl,show ((0:Nat):Int)=0 from rfl] at this
    rw [this,if_neg (by decide),Option.bind_some,List.drop_zero]
    refine ⟨_,rfl,?_⟩
    rw [beq_iff_eq,isT_iff,bl_len]
    cases endL (bl s) 1 0 with
    | none=>simp
    | some q =>
      simp only [Option.some.injEq]
      omega
  · rw [if_neg hz]
    refine ⟨false,rfl,?_⟩
    exact ⟨fun h=>(by cases h),fun h=>by omega⟩
theorem register_tells (n:Int) : ∃ v,narcissusref02_Register.f n=some v∧(v=true↔Reg n):=by
  unfold narcissusref02_Register.f Reg
  by_cases h:n ≥ 0
  · rw [if_pos h]
    refine ⟨_,rfl,?_⟩
    rw [decide_eq_true_iff]
    exact ⟨fun h'=>⟨h,h'⟩,fun h'=>h'.2⟩
  · rw [if_neg h]
    refine ⟨false,rfl,?_⟩
    exact ⟨fun h=>(by cases h),fun h'=>absurd h'.1 h⟩
theorem refRight_tells (x:Ins) (i n:Int) (hi:0≤i) (hin:i≤n) (hn:n≤4000) (k:Nat) (hk:4000020≤k) :
    ∃ v,narcissusref02_Right.f k x.f0 x.f1 x.f2 x.f3 x.f4 i n=some v∧(v=true↔Right x i n):=by
  obtain ⟨k,rfl⟩ : ∃ m,k=m+2:=⟨k - 2,by omega⟩
  have hw1:wrap64 (-i) = -i:=wrap_small (by omega) (by omega)
  have hw2:wrap64 (n - i)=n - i:=wrap_small (by omega) (by omega)
  have hreg:Right x i n→Reg x.f1:=by
    intro h;unfold Right at h;rcases h with h|h|h|h
    · exact h.2.1
    · exact h.2.1
    · exact h.2.1
    · exact h.2.1
  have hno : ∀ (P:Prop),(Right x i n→P) → ¬ P → ∃ v,some false=some v∧(v=true↔Right x i n):=fun P h hp=>⟨false,rfl,fun h=>(by cases h),fun h'=>absurd (h h') hp⟩
  unfold narcissusref02_Right.f
  rw [toL]
  obtain ⟨v1,e1,hv1⟩:=register_tells x.f1
  rw [e1,Option.bind_some]
  cases v1 with
  | false =>
    rw [if_neg (by decide),narcissusref02_Right.j0,if_pos rfl]
    exact hno _ hreg (by simpa using hv1)
  | true =>
    have hr:Reg x.f1:=hv1.1 rfl
    rw [if_pos rfl]
    by_cases h0:x.f0=0
    · rw [if_pos h0,if_neg (by omega),narcissusref02_Right.j0]
      by_cases h3:x.f3=0
      · rw [if_neg (by simp [h3]),if_pos h0]
        by_cases h2:x.f2=0
        · rw [if_pos h2]
          obtain ⟨v,e,hv⟩:=refValid_tells x.f4 (k+1) (by omega)
          rw [e]
          refine ⟨v,rfl,hv.trans ?_⟩
          constructor
          · intro h;exact .inl ⟨h0,hr,h2,h3,h⟩
          · intro h;unfold Right at h;rcases h with h|h|h|h
            · exact h.2.2.2.2
            · omega
            · omega
            · omega
        · rw [if_neg h2]
          refine hno (x.f2=0) ?_ h2
          intro h;unfold Right at h;rcases h with h|h|h|h
          · exact h.2.2.1
          · omega
          · omega
          · omega
      · rw [if_pos (by simp [h3])]
        refine hno (x.f3=0) ?_ h3
        intro h;unfold Right at h;rcases h with h|h|h|h
        · exact h.2.2.2.1
        · omega
        · omega
        · omega
    · rw [if_neg h0]
      by_cases ht:bl x.f4 = []
      · rw [if_pos ht]
        by_cases h2:x.f0=2
        · rw [if_pos h2,narcissusref02_Right.j0,if_neg (by decide),if_neg h0,if_neg (by omega),if_neg (by omega),narcissusref02_Right.j1,if_neg (by simp [h2]),if_pos h2]
          obtain ⟨v2,e2,hv2⟩:=register_tells x.f2
          obtain ⟨v3,e3,hv3⟩:=register_tells x.f3
          have hc:Right x i n→Reg x.f2∧Reg x.f3:=by
            intro h;unfold Right at h;rcases h with h|h|h|h
            · omega
            · omega
            · exact ⟨h.2.2.1,h.2.2.2.1⟩
            · omega
          rw [e2,Option.bind_some]
          cases v2 with
          | false=>exact hno _ (fun h=>(hc h).1) (by simpa using hv2)
          | true =>
            rw [if_pos rfl,e3]
            refine ⟨v3,rfl,hv3.trans ⟨fun h=>.inr (.inr (.inl ⟨h2,hr,hv2.1 rfl,h,ht⟩)),fun h=>(hc h).2⟩⟩
        · rw [if_neg h2,narcissusref02_Right.j0]
          by_cases h3:x.f3=0
          · rw [if_neg (by simp [h3]),if_neg h0]
            have hj : ∀ b,(b=true↔(x.f0=1 ∨ x.f0=3 ∨ x.f0=4)) → ∃ v,narcissusref02_Right.j1 (k+1) i n x.f0 b x.f0 x.f1 x.f2 x.f3 x.f4=some v∧(v=true↔Right x i n):=by
              intro b hb
              rw [narcissusref02_Right.j1]
              cases b with
              | true =>
                have h134:=hb.1 rfl
                rw [if_pos rfl]
                obtain ⟨v,e,hv⟩:=register_tells x.f2
                rw [e]
                refine ⟨v,rfl,hv.trans ?_⟩
                constructor
                · intro h;exact .inr (.inl ⟨h134,hr,h,h3,ht⟩)
                · intro h;unfold Right at h;rcases h with h|h|h|h
                  · omega
                  · exact h.2.2.1
                  · omega
                  · omega
              | false =>
                have h134 : ¬ (x.f0=1 ∨ x.f0=3 ∨ x.f0=4):=fun h=>by have:=hb.2 h;cases this
                rw [if_neg (by decide),if_neg h2]
                by_cases h5:x.f0=5
                · rw [if_pos h5,hw1,hw2]
                  by_cases hge:x.f2 ≥ -i
                  · rw [if_pos hge]
                    refine ⟨_,rfl,?_⟩
                    rw [decide_eq_true_iff]
                    constructor
                    · intro h;exact .inr (.inr (.inr ⟨h5,hr,hge,h,h3,ht⟩))
                    · intro h;unfold Right at h;rcases h with h|h|h|h
                      · omega
                      · omega
                      · omega
                      · exact h.2.2.2.1
                  · rw [if_neg hge]
                    refine hno (x.f2 ≥ -i) ?_ hge
                    intro h;unfold Right at h;rcases h with h|h|h|h
                    · omega
                    · omega
                    · omega
                    · exact h.2.2.1
                · rw [if_neg h5]
                  refine hno False ?_ id
                  intro h;unfold Right at h;rcases h with h|h|h|h
                  · omega
                  · exact h134 h.1
                  · omega
                  · omega
            by_cases h1:x.f0=1
            · rw [if_pos h1]
              exact hj _ (by simp [h1])
            · rw [if_neg h1]
              by_cases h33:x.f0=3
              · rw [if_pos h33]
                exact hj _ (by simp [h33])
              · rw [if_neg h33]
                refine hj _ ?_
                rw [beq_iff_eq]
                omega
          · rw [if_pos (by simp [h3])]
            refine hno False ?_ id
            intro h;unfold Right at h;rcases h with h|h|h|h
            · omega
            · exact h3 h.2.2.2.1
            · omega
            · exact h3 h.2.2.2.2.1
      · rw [if_neg ht,narcissusref02_Right.j0,if_pos rfl]
        refine hno False ?_ id
        intro h;unfold Right at h;rcases h with h|h|h|h
        · exact h0 h.1
        · exact ht h.2.2.2.2
        · exact ht h.2.2.2.2
        · exact ht h.2.2.2.2.2
def Fits (p:List Ins):Prop := ∀ x ∈ p,x.f4.size≤140737488355328
theorem trees_l (p:List Ins) (hp:p.length≤4000) (hf:Fits p) : ∀ (d k i s:Nat),p.length - i=d→i≤p.length→s≤i * 140737488355328→d<k →
    narcissusref02_Trees.l0 k p (s:Int) (i:Int)=some ((s+sizes (p.drop i):Nat):Int)
  | d,k,i,s,hd,hi,hs,hk=>by
    obtain ⟨k,rfl⟩ : ∃ m,k=m+1:=⟨k - 1,by omega⟩
    by_cases hlt:i<p.length
    · have hdrop:p.drop i=p[i] :: p.drop (i+1):=List.drop_eq_getElem_cons hlt
      have hx:=hf p[i] (List.getElem_mem hlt)
      have hb:i * 140737488355328≤4000 * 140737488355328:=Nat.mul_le_mul_right _ (by omega)
      have hsum:sizes (p.drop i)=p[i].f4.size+sizes (p.drop (i+1)):=by unfold sizes;rw [hdrop,List.map_cons,List.sum_cons]
      rw [narcissusref02_Trees.l0,if_pos (by omega),if_pos (by omega),rd_at p i hlt,hsum,wrap_small (by omega) (by omega),wrap_small (by omega) (by omega),show (i:Int)+1=((i+1:Nat):Int) from rfl,show (s:Int)+(p[i].f4.size:Int)=((s+p[i].f4.size:Nat):Int) from rfl]
      rw [trees_l p hp hf (p.length - (i+1)) k (i+1) _ rfl (by omega) (by omega) (by omega)]
      congr 2
      omega
    · rw [narcissusref02_Trees.l0,if_neg (by omega),List.drop_eq_nil_of_le (by omega)]
      simp [sizes]
  termination_by d=>d
theorem refValid_l (p:List Ins) (hp:p.length≤4000) : ∀ (d k i:Nat),p.length - i=d→i≤p.length→d+4000030<k →
    ∃ v,narcissusref02_Valid.l0 k p (i:Int)=some v∧(v=true ↔ ∀ j,i≤j→j<p.length→Right (rd_T42 p (j:Int)) j p.length)
  | d,k,i,hd,hi,hk=>by
    obtain ⟨k,rfl⟩ : ∃ m,k=m+1:=⟨k - 1,by omega⟩
    by_cases hlt:i<p.length
    · rw [narcissusref02_Valid.l0,if_pos (by omega),if_pos (by omega)]
      obtain ⟨v,e,hv⟩:=refRight_tells (rd_T42 p (i:Int)) (i:Int) (p.length:Int) (by omega) (by omega) (by omega) k (by omega)
      rw [e,Option.bind_some]
      cases v with
      | false =>
        refine ⟨false,rfl,fun h=>(by cases h),fun h=>?_⟩
        exact hv.2 (h i (Nat.le_refl _) hlt)
      | true =>
        rw [if_pos rfl,wrap_small (by omega) (by omega),show (i:Int)+1=((i+1:Nat):Int) from rfl]
        obtain ⟨v,e,hv'⟩:=refValid_l p hp (p.length - (i+1)) k (i+1) rfl (by omega) (by omega)
        refine ⟨v,e,hv'.trans ⟨fun h2 j h3 h4=>?_,fun h2 j h3 h4=>h2 j (by omega) h4⟩⟩
        by_cases hji:j=i
        · subst hji;exact hv.1 rfl
        · exact h2 j (by omega) h4
    · rw [narcissusref02_Valid.l0,if_neg (by omega)]
      exact ⟨true,rfl,fun _ j h1 h2=>by omega,fun _=>rfl⟩
  termination_by d=>d
theorem refValidp_tells (p:List Ins) (hf:Fits p) (k:Nat) (hk:4010000≤k) : ∃ v,narcissusref02_Valid.f k p=some v∧(v=true↔OKP p):=by
  obtain ⟨k,rfl⟩ : ∃ m,k=m+1:=⟨k - 1,by omega⟩
  unfold narcissusref02_Valid.f
  by_cases h:(p.length:Int) > 4000
  · rw [if_pos h,narcissusref02_Valid.j0,if_pos rfl]
    exact ⟨false,rfl,fun h=>(by cases h),fun h'=>by have:=h'.1;omega⟩
  · rw [if_neg h]
    have ht:=trees_l p (by omega) hf p.length (k+1) 0 0 rfl (by omega) (by omega) (by omega)
    rw [show ((0:Nat):Int)=0 from rfl,List.drop_zero,Nat.zero_add] at ht
    unfold narcissusref02_Trees.f
    rw [ht,Option.bind_some,narcissusref02_Valid.j0]
    by_cases hb:((sizes p:Nat):Int) > 2000000
    · rw [if_pos (decide_eq_true hb)]
      exact ⟨false,rfl,fun h=>(by cases h),fun h'=>by have h2:sizes p≤2000000:=h'.2.1;omega⟩
    · rw [if_neg (by simpa using hb)]
      obtain ⟨v,e,hv⟩:=refValid_l p (by omega) p.length k 0 rfl (by omega) (by omega)
      refine ⟨v,e,hv.trans ⟨fun h2=>⟨by omega,by show sizes p≤2000000;omega,fun j hj=>h2 j (by omega) hj⟩,fun h2 j _ hj=>h2.2.2 j hj⟩⟩
theorem refValidp_yes {p:List Ins} {k:Nat} (hf:Fits p) (hk:4010000≤k) (h:OKP p):narcissusref02_Valid.f k p=some true:=by
  obtain ⟨v,e,hv⟩:=refValidp_tells p hf k hk
  rw [e,hv.2 h]
theorem refValidp_no {p:List Ins} {k:Nat} (hf:Fits p) (hk:4010000≤k) (h : ¬ OKP p):narcissusref02_Valid.f k p=some false:=by
  obtain ⟨v,e,hv⟩:=refValidp_tells p hf k hk
  cases v with
  | false=>exact e
  | true=>exact absurd (hv.1 rfl) h
theorem okp_fits {p:List Ins} (h:OKP p):Fits p:=fun x hx=>by have:=(okp_text h x hx).2;omega
end Go.Proofs.YtfckjfoalpkpjaaGreatDoor.Plain
end
namespace Go.Proofs.YtfckjfoalpkpjaaGreatDoor.C
open Go.RowKit Go.Proofs.YtfckjfoalpkpjaaGreatDoorW.PrintWords Go.Proofs.YtfckjfoalpkpjaaGreatDoorW.PrintLast Go.Proofs.YtfckjfoalpkpjaaGreatDoorW.PrintMore
section
theorem infoU8n:(Tryz.prog.info? 5).map (fun i=>(i.zero,i.size,i.bytes))=some (some (.int .u8 0),1,1):=by kernel_rfl
def rep10:Nat→List Int
  | 0 => []
  | n+1=>rep10 n ++ [49,48]
def narcissusref01_Number.f (a0:Int):Option ByteArray:=if 0≤a0∧a0≤1000000000 then some (strOfNums (rep10 a0.toNat ++ [48])) else none
set_option maxHeartbeats 1000000 in
set_option maxRecDepth 100000 in
theorem narcissusref01_Number.calls (a0:Int) (r:ByteArray) (w:World) (h:narcissusref01_Number.f a0=some r) :
    Calls Tryz.prog 49 #[.int .i64 a0] w fun e w'=>e = .returned (.string r)∧Below w.heap.size w w':=by
  unfold narcissusref01_Number.f at h
  split at h
  case isFalse=>cases h
  case isTrue hc =>
  obtain ⟨h0,h1⟩:=hc
  obtain ⟨n,rfl⟩:=Int.eq_ofNat_of_zero_le h0
  obtain rfl:=Option.some.inj h
  rw [Int.toNat_natCast]
  obtain ⟨i0,hi,hz0,hz1,hz2⟩:=info_parts infoU8n
  have hn:n≤1000000000:=by omega
  obtain ⟨w1,hmk0,hown0,hg0⟩:=run_make_own w w.heap.size 67 5 i0 (.int .u8 0) 1 Tryz.underlying67 hi hz0 hz1 .i64 .i64 (2 * n+1) (by rw [hz2];omega) (by unfold maxLen;omega) (Nat.le_refl _)
  have hmk:(Instr.makeSlice 67 (.int .i64 0) (.int .i64 (2 * (n:Int)+1))).run Tryz.prog w = .ok (.slice (some ⟨w.heap.size,0,none⟩) 0 (2 * n+1)) w1:=by
    rw [← hmk0];congr 2
  have HOW:=Aside0.mk hown0
  have HG:=Aside0.mk hg0
  clear hmk0 hown0 hg0;go_enter Tryz.func49,Tryz.ntmps49
  go_wp2
  clear hmk;go_loopw [3,4] (fun v i wr => ∃ k:Nat,k≤n∧i = .int .i64 k∧Aside0 (wr.ownsRow w.heap.size 5 1 v (2 * k) (nums .u8 (rep10 k)))∧Aside0 (Below w.heap.size w wr)) (fun _ i _=>n - (intOf i).toNat)
  case atStart=>exact ⟨0,Nat.zero_le _,rfl,⟨HOW.out⟩,⟨(Below.refl _ _).grown HG.out (Nat.le_refl _) (by intro k hk;cases hk)⟩⟩
  case round =>
    clear HOW HG;obtain ⟨k,hk,rfl,HO,HB⟩:=hrel
    by_cases hlt:k<n
    · go_wp2_with (at_builtin;refine wpList_append_own _ rfl _ _ 67 rfl w.heap.size 5 i0 (.int .u8 0) 1 1 Tryz.underlying67 hi hz0 hz1 hz2 rfl (by decide) _ (2 * k) _ rfl (HO.out.alloc _) ⟨wr.heap.size,0,none⟩ 2 2 [.int .u8 49,.int .u8 48] rfl rfl ?c1 ?c2 ?c3 ?c4 ?c5 ?_)
      case c1 =>
        intro j u hj
        match j,hj with
        | 0,hj=>simp at hj;subst hj;simp [Addr.add]
        | 1,hj=>simp at hj;subst hj;simp [Addr.add]
      case c2=>intro u hu;simp at hu;rcases hu with rfl|rfl<;>rfl
      case c3=>unfold maxLen;omega
      case c4=>omega
      case c5=>have:=HB.out.size;simp;omega
      intro v' w2 hown' hgrow _
      have HO':=Aside0.mk hown'
      have HG':=Aside0.mk hgrow
      clear hown' hgrow;go_wp2
      go_roundw
      case rel =>
        refine ⟨k+1,by omega,by go_num,⟨?_⟩,⟨(HB.out.alloc HB.out.size _).grown HG'.out (by have:=HB.out.size;simp;omega) (own_base HO.out)⟩⟩
        have e:=HO'.out
        rw [show 2 * (k+1)=2 * k+2 from by omega,rep10,nums_append]
        exact e
      case measure=>simp [intOf];omega
    · obtain rfl:k=n:=by omega
      go_wp2_with (at_builtin;refine wpList_append_own _ rfl _ _ 67 rfl w.heap.size 5 i0 (.int .u8 0) 1 1 Tryz.underlying67 hi hz0 hz1 hz2 rfl (by decide) _ (2 * k) _ rfl (HO.out.alloc _) ⟨wr.heap.size,0,none⟩ 1 1 [.int .u8 48] rfl rfl ?c1 ?c2 ?c3 ?c4 ?c5 ?_)
      case c1 =>
        intro j u hj
        match j,hj with
        | 0,hj=>simp at hj;subst hj;simp [Addr.add]
      case c2=>intro u hu;simp at hu;subst hu;rfl
      case c3=>unfold maxLen;omega
      case c4=>omega
      case c5=>have:=HB.out.size;simp;omega
      intro v' w2 hown' hgrow _
      have hcv:=own_string (P:=Tryz.prog) (n:=2 * k+1) (xs:=rep10 k ++ [48]) Tryz.underlying67 Tryz.underlying5 Tryz.underlying9 (by rw [nums_append];exact hown')
      have HG':=Aside0.mk hgrow
      clear hown' hgrow;go_wp2
      go_ret
      exact ⟨rfl,(HB.out.alloc HB.out.size _).grown HG'.out (by have:=HB.out.size;simp;omega) (own_base HO.out)⟩
theorem step_append_str {P:Program} {ops:Array Oper} {o:Oper} {a:Act} {K:Act→World→Prop} {Q:Exit→Act→World→Prop} {E:Prop} {w:World} (hgd:o.guard=none) (sl x:Operand) (t u:TypeId)
    (ho:o.op = .call { callee:=.builtin .append,args:=#[sl,x],argTypes:=#[t,u] })
    (base:Nat) (e:TypeId) (i:TypeInfo) (ht:P.underlying t=some (.slice e)) (hu:P.underlying u=some .string) (hi:P.info? e=some i) (hz:i.zero=some (.int .u8 0))
    (hsize:i.size=1) (hby:i.bytes=1)
    (v:Value) (n:Nat) (xs:List Value) (hs:a.eval sl=v) (hown:w.ownsRow base e 1 v n xs) (s:ByteArray) (hx:a.eval x = .string s)
    (h63:n+s.size≤maxLen) (hbytes:n+s.size≤140737488355328) (hbase:base≤w.heap.size)
    (h : ∀ v' w',w'.ownsRow base e 1 v' (n+s.size) (xs ++ Lib.strCells s)→w.grownBy w' v.ownBlock→(v' = .slice none 0 0↔v = .slice none 0 0∧s.size=0)→K (a.put o.dst v') w') :
    if Region.wanted o (yielded ops a.tmps)=true then Oper.wp P o a w K Q else E:=by
  have hw:Region.wanted o (yielded ops a.tmps)=true:=by simp [Region.wanted,hgd]
  rw [if_pos hw]
  obtain ⟨v',w',hr,h2,h3,h4⟩:=Lib.run_append_own_string (P:=P) w base t u o.type e i ht hu hi hz hsize hby v n xs hown s h63 hbytes hbase
  unfold Oper.wp execOp
  simp only [ho,resolve,invoke,builtin,Sem.run_bind,Sem.run_pure,Result.andThen_ok,List.map_toArray,List.map_cons,List.map_nil,hs,hx,hr]
  exact h v' w' h2 h3 h4
def narcissusref01_List.l:Nat→List ByteArray→List Int→Int→Option ByteArray
  | 0,_,_,_=>none
  | k+1,l0,xs,i=>if i<(l0.length:Int) then (if xs.length+1+(rdOf ByteArray.empty l0 i).size≤140737488355327 then narcissusref01_List.l k l0 (xs ++ [49] ++ bytesOf (rdOf ByteArray.empty l0 i)) (i+1) else none) else if xs.length+1≤140737488355328 then some (strOfNums (xs ++ [48])) else none
def narcissusref01_List.f (k:Nat) (l0:List ByteArray):Option ByteArray:=narcissusref01_List.l k l0 [] 0
theorem narcissusref01_List.l_mono : ∀ k l xs i,LeO (narcissusref01_List.l k l xs i) (narcissusref01_List.l (k+1) l xs i):=by
  intro k
  induction k with
  | zero=>intro l xs i r h;simp [narcissusref01_List.l] at h
  | succ k ih =>
    intro l xs i
    rw [narcissusref01_List.l,narcissusref01_List.l]
    exact LeO.ite (LeO.ite (ih _ _ _) (LeO.refl _)) (LeO.refl _)
theorem narcissusref01_List.mono : ∀ a0 k,LeO (narcissusref01_List.f k a0) (narcissusref01_List.f (k+1) a0):=fun a0 k=>narcissusref01_List.l_mono k a0 [] 0
set_option maxHeartbeats 1000000 in
set_option maxRecDepth 100000 in
theorem narcissusref01_List.calls (k:Nat) (A0:Option Addr) (c0:Nat) (l0:List ByteArray) (r:ByteArray) (w:World) (hr0:Kd.C Kd.string w A0 l0.length l0) (hc0:l0.length≤c0) (h:narcissusref01_List.f k l0=some r) :
    Calls Tryz.prog 54 #[.slice A0 l0.length c0] w fun e w'=>e = .returned (.string r)∧Below w.heap.size w w':=by
  have HH:=Aside0.mk h
  have HR0:=Aside0.mk hr0
  have HC0:=Aside0.mk hc0
  have hlm:l0.length≤9223372036854775807:=hr0.2.1
  clear h hr0 hc0;unfold narcissusref01_List.f at HH
  obtain ⟨i0,hi,hz0,hz1,hz2⟩:=info_parts infoU8n
  go_enter Tryz.func54,Tryz.ntmps54
  go_wp2
  go_loopg [3,4] k (fun kq v3 v4 wr => ∃ (xs:List Int) (i:Nat),v4 = .int .i64 i∧Aside0 (i≤l0.length)∧Aside0 (narcissusref01_List.l kq l0 xs i=some r)∧Aside0 (wr.ownsRow w.heap.size 5 1 v3 xs.length (nums .u8 xs))∧Aside0 (Below w.heap.size w wr))
  case atStart=>exact ⟨[],0,rfl,⟨Nat.zero_le _⟩,HH,⟨own_nil _ _ _ _⟩,⟨Below.refl _ _⟩⟩
  case round =>
    clear HH;obtain ⟨xs,i,rfl,HI,HA,HO,HB⟩:=hrel
    cases gk with
    | zero=>exact absurd HA.out (by simp [narcissusref01_List.l])
    | succ k2 =>
      have H:=HA.out
      clear HA;rw [narcissusref01_List.l] at H
      by_cases hlt:(i:Int)<(l0.length:Int)
      · rw [if_pos hlt] at H
        have hltn:i<l0.length:=by omega
        obtain ⟨ad,eA,hcell⟩:=Kd.at_string HR0.out (i:Int) (by omega) (by omega)
        subst eA;rw [Int.toNat_natCast] at hcell
        have hblt:=World.block_lt_of_cell? w _ hcell
        replace hcell:=(HB.out.cell hblt).trans hcell
        generalize rdOf ByteArray.empty l0 (i:Int)=s at *
        by_cases hlim:xs.length+1+s.size≤140737488355327
        · rw [if_pos hlim] at H
          have HN:=Aside0.mk H
          have HLM:=Aside0.mk hlim
          have hbw:=HB.out.size
          have HM1:=Aside0.mk (show xs.length+1≤maxLen by unfold maxLen;omega)
          have HM2:=Aside0.mk (show (xs.length+1) * 1≤140737488355328 by omega)
          have HM3:=Aside0.mk (show xs.length+1+s.size≤maxLen by unfold maxLen;omega)
          have HM4:=Aside0.mk (show xs.length+1+s.size≤140737488355328 by omega)
          have HNE:Aside0 (u3.ownBlock ≠ some (ad.add i).block):=⟨fun e=>by have:=own_base HO.out _ e;omega⟩
          clear H hlim;go_wp2_with fail
          go_region_held3 (fun w'=>w'.cell? (ad.add i)=some (.string s))
            (first
              | go_keep
              | (have hne1:u3.ownBlock ≠ some (ad.add i).block:=HNE.out
                 rw [hgrow1.cell_far _ (by simp;omega) (Ne.symm hne1)];assumption)
              | (rw [hgrow2.cell_far _ (by have:=hgrow1.size;simp at this;omega) (by intro e;have:=own_base hown1 _ e.symm;omega)];assumption))
            (first
              | ((refine step_append_lies _ (by rfl) _ _ _ (by rfl) w.heap.size 5 i0 _ 1 1 Tryz.underlying67 hi hz0 hz1 hz2 rfl (by omega) _ xs.length (nums .u8 xs) (by rfl) ((HO.out.alloc _).drew)
                      ⟨wr.heap.size,0,none⟩ 1 1 [.int .u8 49] (by rfl) (by rfl) (World.news_of_block (cs:=#[.int .u8 49]) (t:=5) (fr:=(0,0)) (heap_alloc_new wr _)) (by simp [Value.oneCell'])
                      (by omega) HM1.out HM2.out (by simp;omega) (wr.heap.size+1) (by simp) ?_;intro gg cap w1 hown1 hgrow1 hat1 hlt1))
              | ((refine step_append_str (by rfl) _ _ _ _ (by rfl) w.heap.size 5 i0 Tryz.underlying67 Tryz.underlying9 hi hz0 hz1 hz2 _ _ _ (by rfl) hown1 s (by rfl) HM3.out HM4.out (Nat.le_trans (by simp;omega) hgrow1.size) ?_;intro v2 w2 hown2 hgrow2 hat2)))
          have HO2:=Aside0.mk hown2
          have HB2:Aside0 (Below w.heap.size w w2):=⟨(((HB.out.alloc HB.out.size _).drew).grown hgrow1 (by simp;omega) (own_base HO.out)).grown hgrow2 (by have:=hgrow1.size;simp at this;omega) (own_base hown1)⟩
          clear hgrow1 hgrow2 hown1 hown2 hat1 hat2 hlt1;go_wp2
          go_roundg k2
          case measure=>omega
          case rel =>
            refine ⟨xs ++ [49] ++ bytesOf s,i+1,by go_num,⟨by omega⟩,?_,⟨?_⟩,HB2⟩
            · rw [show ((i+1:Nat):Int)=(i:Int)+1 from rfl];exact HN
            · have e:=HO2.out
              have e2:(xs ++ [49] ++ bytesOf s).length=xs.length+1+s.size:=by rw [List.length_append,List.length_append,bytesOf_length];rfl
              rw [e2,nums_append,nums_append]
              have e3:nums .u8 (bytesOf s)=Lib.strCells s:=by simp [nums,bytesOf,Lib.strCells]
              rw [e3]
              exact e
        · rw [if_neg hlim] at H
          cases H
      · rw [if_neg hlt] at H
        by_cases hl9:xs.length+1≤140737488355328
        · rw [if_pos hl9] at H
          obtain rfl:=Option.some.inj H
          have t1:decide ((i:Int)<(l0.length:Int))=false:=decide_eq_false hlt
          have t2:decide (i<l0.length)=false:=decide_eq_false (by omega)
          clear H hlt;go_wp2_with (at_builtin;refine wpList_append_own _ rfl _ _ 67 rfl w.heap.size 5 i0 (.int .u8 0) 1 1 Tryz.underlying67 hi hz0 hz1 hz2 rfl (by decide) _ xs.length _ rfl (HO.out.alloc _) ⟨wr.heap.size,0,none⟩ 1 1 [.int .u8 48] rfl rfl ?z1 ?z2 ?z3 ?z4 ?z5 ?_)
          case z1 =>
            intro j u hj
            match j,hj with
            | 0,hj=>simp at hj;subst hj;simp [Addr.add]
          case z2=>intro u hu;simp at hu;subst hu;rfl
          case z3=>unfold maxLen;omega
          case z4=>omega
          case z5=>have:=HB.out.size;simp;omega
          intro v' w2 hown' hgrow _
          have hcv:=own_string (P:=Tryz.prog) (n:=xs.length+1) (xs:=xs ++ [48]) Tryz.underlying67 Tryz.underlying5 Tryz.underlying9 (by rw [nums_append];exact hown')
          have HG':=Aside0.mk hgrow
          clear hown' hgrow;go_wp2
          go_ret
          exact ⟨rfl,(HB.out.alloc HB.out.size _).grown HG'.out (by have:=HB.out.size;simp;omega) (own_base HO.out)⟩
        · rw [if_neg hl9] at H
          cases H
end
section
attribute [local go_sem] max2_int min2_int max_two min_two max_three min_three max_four min_four
def narcissusref02_pair.f (a0:ByteArray) (a1:ByteArray):Option (ByteArray):=if 1+a0.size≤9223372036854775807 then (if ((⟨#[49]⟩:ByteArray) ++ a0).size+a1.size≤9223372036854775807 then (some (((⟨#[49]⟩:ByteArray) ++ a0) ++ a1)) else (none)) else (none)
set_option maxHeartbeats 8000000 in
set_option maxRecDepth 100000 in
theorem narcissusref02_pair.calls (a0:ByteArray) (a1:ByteArray) (r:ByteArray) (w:World) (h:narcissusref02_pair.f a0 a1=some r) :
  Calls Tryz.prog 50 #[.string a0,.string a1] w fun e w'=>e = .returned (.string r)∧Drawn0 w w':=by
 have H:(if 1+a0.size≤9223372036854775807 then (if ((⟨#[49]⟩:ByteArray) ++ a0).size+a1.size≤9223372036854775807 then (some (((⟨#[49]⟩:ByteArray) ++ a0) ++ a1)) else (none)) else (none))=some r:=h
 clear h;by_cases c3:1+a0.size≤9223372036854775807
 ·rw [if_pos c3] at H
  have c3b0:=eq_true c3
  have c3b1:decide (1+a0.size≤9223372036854775807)=true:=decide_eq_true c3
  try have c3b2:(9223372036854775807<1+a0.size)=False:=eq_false (Nat.not_lt.2 c3)
  by_cases c4:((⟨#[49]⟩:ByteArray) ++ a0).size+a1.size≤9223372036854775807
  ·rw [if_pos c4] at H
   have c4b0:=eq_true c4
   have c4b1:decide (((⟨#[49]⟩:ByteArray) ++ a0).size+a1.size≤9223372036854775807)=true:=decide_eq_true c4
   try have c4b2:(9223372036854775807<((⟨#[49]⟩:ByteArray) ++ a0).size+a1.size)=False:=eq_false (Nat.not_lt.2 c4)
   try (have c4b3:=c4b2;simp only [ByteArray.size_append,lit_size,List.size_toArray,List.length_cons,List.length_nil,Nat.zero_add,Nat.reduceAdd] at c4b3)
   obtain rfl:=Option.some.inj H
   go_enter Tryz.func50,Tryz.ntmps50
   go_wp2
   go_ret
   exact ⟨by first|rfl|(simp;done)|(simp [*];done)|(simp [show ∀ l:List UInt8,(l != []) = !l.isEmpty from fun l=>by cases l<;>rfl];done),by repeat (first|exact Drawn0.refl _|apply Drawn0.step)⟩
  ·rw [if_neg c4] at H
   exact absurd H (by simp)
 ·rw [if_neg c3] at H
  exact absurd H (by simp)
end
section
attribute [local go_sem] max2_int min2_int max_two min_two max_three min_three max_four min_four
def narcissusref02_CodeOf.j0:Nat→ByteArray→ByteArray→Int→Bool→Int→Int→Int→Int→ByteArray→Option (ByteArray)
 | 0,_,_,_,_,_,_,_,_,_=>none
 | k+1,x3,x4,x9,x16,x2000,x2001,x2002,x2003,x2004=>if x16=true then ((narcissusref01_Number.f x2002).bind fun t6=>((narcissusref02_pair.f x3 t6).bind fun t7=>((narcissusref01_Number.f x2000).bind fun t8=>((narcissusref02_pair.f t8 t7).bind fun t9=>(some t9))))) else (if x9=2 then ((narcissusref01_Number.f x2002).bind fun t10=>((narcissusref01_Number.f x2003).bind fun t11=>((narcissusref02_pair.f t10 t11).bind fun t12=>((narcissusref02_pair.f x3 t12).bind fun t13=>((narcissusref01_Number.f x2000).bind fun t14=>((narcissusref02_pair.f t14 t13).bind fun t15=>(some t15))))))) else (if x9=5 then ((narcissusref01_Number.f (mx x2002 0)).bind fun t16=>((narcissusref02_pair.f (⟨#[48]⟩:ByteArray) t16).bind fun t17=>((narcissusref02_pair.f x3 t17).bind fun t18=>(if x2002<0 then ((narcissusref01_Number.f (wrap64 (-x2002))).bind fun t19=>((narcissusref02_pair.f (⟨#[49,48,48]⟩:ByteArray) t19).bind fun t20=>((narcissusref02_pair.f x3 t20).bind fun t21=>((narcissusref01_Number.f x2000).bind fun t22=>((narcissusref02_pair.f t22 t21).bind fun t23=>(some t23)))))) else ((narcissusref01_Number.f x2000).bind fun t24=>((narcissusref02_pair.f t24 t18).bind fun t25=>(some t25))))))) else ((narcissusref01_Number.f x2000).bind fun t26=>((narcissusref02_pair.f t26 x4).bind fun t27=>(some t27)))))
def narcissusref02_CodeOf.f (k:Nat) (a0_0:Int) (a0_1:Int) (a0_2:Int) (a0_3:Int) (a0_4:ByteArray):Option (ByteArray):=(narcissusref01_Number.f a0_1).bind fun t2=>(if a0_0=0 then ((narcissusref02_pair.f t2 a0_4).bind fun t3=>((narcissusref01_Number.f a0_0).bind fun t4=>((narcissusref02_pair.f t4 t3).bind fun t5=>(some t5)))) else (if a0_0=1 then (narcissusref02_CodeOf.j0 k t2 (⟨#[]⟩:ByteArray) a0_0 (a0_0 == 1) a0_0 a0_1 a0_2 a0_3 a0_4) else (if a0_0=3 then (narcissusref02_CodeOf.j0 k t2 (⟨#[]⟩:ByteArray) a0_0 (a0_0 == 3) a0_0 a0_1 a0_2 a0_3 a0_4) else (narcissusref02_CodeOf.j0 k t2 (⟨#[]⟩:ByteArray) a0_0 (a0_0 == 4) a0_0 a0_1 a0_2 a0_3 a0_4))))
theorem narcissusref02_CodeOf.mono_l : ∀ k,(∀ y0 y1 y2 y3 y4 y5 y6 y7 y8,LeO (narcissusref02_CodeOf.j0 k y0 y1 y2 y3 y4 y5 y6 y7 y8) (narcissusref02_CodeOf.j0 (k+1) y0 y1 y2 y3 y4 y5 y6 y7 y8))
 | 0=>fun _ _ _ _ _ _ _ _ _ r h=>by simp [narcissusref02_CodeOf.j0] at h
 | k+1=>by
  have ih0:=narcissusref02_CodeOf.mono_l k
  ·intro y0 y1 y2 y3 y4 y5 y6 y7 y8
   unfold narcissusref02_CodeOf.j0
   repeat' first
   | (with_reducible exact ih0 _ _ _ _ _ _ _ _ _)
   | (with_reducible exact LeO.refl _)
   | (with_reducible exact LeO.none _)
   | (with_reducible refine LeO.ite ?_ ?_)
   | (with_reducible refine LeO.bind ?_ (fun _=>?_))
   | exact ih0 _ _ _ _ _ _ _ _ _
   | exact LeO.none _
   | refine LeO.ite ?_ ?_
   | refine LeO.bind ?_ (fun _=>?_)
theorem narcissusref02_CodeOf.mono : ∀ a0 a1 a2 a3 a4 k,LeO (narcissusref02_CodeOf.f k a0 a1 a2 a3 a4) (narcissusref02_CodeOf.f (k+1) a0 a1 a2 a3 a4):=by
 intro a0 a1 a2 a3 a4 k
 have ih0:=narcissusref02_CodeOf.mono_l k
 unfold narcissusref02_CodeOf.f
 repeat' first
   | (with_reducible exact ih0 _ _ _ _ _ _ _ _ _)
   | (with_reducible exact LeO.refl _)
   | (with_reducible exact LeO.none _)
   | (with_reducible refine LeO.ite ?_ ?_)
   | (with_reducible refine LeO.bind ?_ (fun _=>?_))
   | exact ih0 _ _ _ _ _ _ _ _ _
   | exact LeO.none _
   | refine LeO.ite ?_ ?_
   | refine LeO.bind ?_ (fun _=>?_)
def narcissusref02_CodeOf.T11:Bool × List (List Nat × List Nat):=(true,[([],[]),([],[]),([1],[1]),([2],[2]),([],[]),([4],[4]),([5,3],[5]),([3,6,6],[3,6]),([0,7,7],[0,7]),([8,8,0,1,2,3,4,5,6,7,8],[8])])
def narcissusref02_CodeOf.B11:List Nat:=[0,0,2,6,0,16,62,126,255,511]
theorem narcissusref02_CodeOf.tab11:rtab .any (opsOf Tryz.f20 11)=narcissusref02_CodeOf.T11:=by kernel_rfl
theorem narcissusref02_CodeOf.bits11:waitsOk narcissusref02_CodeOf.T11.2 narcissusref02_CodeOf.B11=true:=by kernel_rfl
set_option maxHeartbeats 8000000 in
set_option maxRecDepth 100000 in
theorem narcissusref02_CodeOf.calls (k:Nat) (a0_0:Int) (a0_1:Int) (a0_2:Int) (a0_3:Int) (a0_4:ByteArray) (r:ByteArray) (w:World) (h:narcissusref02_CodeOf.f k a0_0 a0_1 a0_2 a0_3 a0_4=some r) :
  Calls Tryz.prog 20 #[.agg #[.int .i64 a0_0,.int .i64 a0_1,.int .i64 a0_2,.int .i64 a0_3,.string a0_4]] w fun e w'=>e = .returned (.string r)∧Below w.heap.size w w':=by
 have hu42:=Tryz.underlying42
 have HB:=Aside0.mk (Below.refl w.heap.size w)
 have H:((narcissusref01_Number.f a0_1).bind fun t2=>(if a0_0=0 then ((narcissusref02_pair.f t2 a0_4).bind fun t3=>((narcissusref01_Number.f a0_0).bind fun t4=>((narcissusref02_pair.f t4 t3).bind fun t5=>(some t5)))) else (if a0_0=1 then (narcissusref02_CodeOf.j0 k t2 (⟨#[]⟩:ByteArray) a0_0 (a0_0 == 1) a0_0 a0_1 a0_2 a0_3 a0_4) else (if a0_0=3 then (narcissusref02_CodeOf.j0 k t2 (⟨#[]⟩:ByteArray) a0_0 (a0_0 == 3) a0_0 a0_1 a0_2 a0_3 a0_4) else (narcissusref02_CodeOf.j0 k t2 (⟨#[]⟩:ByteArray) a0_0 (a0_0 == 4) a0_0 a0_1 a0_2 a0_3 a0_4)))))=some r:=h
 clear h;replace H:=Option.bind_eq_some_iff.mp H
 obtain ⟨t2,A20,H⟩:=H
 replace H:(if a0_0=0 then ((narcissusref02_pair.f t2 a0_4).bind fun t3=>((narcissusref01_Number.f a0_0).bind fun t4=>((narcissusref02_pair.f t4 t3).bind fun t5=>(some t5)))) else (if a0_0=1 then (narcissusref02_CodeOf.j0 k t2 (⟨#[]⟩:ByteArray) a0_0 (a0_0 == 1) a0_0 a0_1 a0_2 a0_3 a0_4) else (if a0_0=3 then (narcissusref02_CodeOf.j0 k t2 (⟨#[]⟩:ByteArray) a0_0 (a0_0 == 3) a0_0 a0_1 a0_2 a0_3 a0_4) else (narcissusref02_CodeOf.j0 k t2 (⟨#[]⟩:ByteArray) a0_0 (a0_0 == 4) a0_0 a0_1 a0_2 a0_3 a0_4))))=some r:=H
 have A2:=Aside0.mk A20
 clear A20;by_cases c3:a0_0=0
 ·rw [if_pos c3] at H
  have c3b0:(a0_0 == 0)=true:=beq_iff_eq.mpr c3
  have c3b1:(a0_0 != 0)=false:=bne_eq_false_iff_eq.mpr c3
  clear c3;replace H:=Option.bind_eq_some_iff.mp H
  obtain ⟨t3,A40,H⟩:=H
  replace H:((narcissusref01_Number.f a0_0).bind fun t4=>((narcissusref02_pair.f t4 t3).bind fun t5=>(some t5)))=some r:=H
  have A4:=Aside0.mk A40
  clear A40;replace H:=Option.bind_eq_some_iff.mp H
  obtain ⟨t4,A50,H⟩:=H
  replace H:((narcissusref02_pair.f t4 t3).bind fun t5=>(some t5))=some r:=H
  have A5:=Aside0.mk A50
  clear A50;replace H:=Option.bind_eq_some_iff.mp H
  obtain ⟨t5,A60,H⟩:=H
  replace H:(some t5)=some r:=H
  have A6:=Aside0.mk A60
  clear A60;obtain rfl:=Option.some.inj H
  go_enter Tryz.func20,Tryz.ntmps20
  go_wp2_with (first|((with_reducible refine gate_dst (N:=1) rfl ?_);refine box_event ?hg (N:=1) ?hd (cs:=#[.int .i64 a0_0,.int .i64 a0_1,.int .i64 a0_2,.int .i64 a0_3,.string a0_4]) (t:=42) ?hr ?_;(case hd=>rfl);(case hg=>rfl);(case hr=>first|(go_simp;done)|(go_simp;rfl));intro gb1 hg w7 hbox hb;have n0_:=Aside0.mk (below_step (by repeat (first|(with_reducible first|exact HB.out|apply below_alloc|apply pw_below_drewN|apply below_drew1)|exact HB.out)) hb);have n1_:=Aside0.mk (hbox);have n2_:=Aside0.mk ((by rw [hg];exact (below_size (by repeat (first|(with_reducible first|exact HB.out|apply below_alloc|apply pw_below_drewN|apply below_drew1)|exact HB.out))):w.heap.size≤gb1));have n3_:=Aside0.mk ((by rw [hg];exact (below_size (by repeat (first|(with_reducible first|exact HB.out|apply below_alloc|apply pw_below_drewN|apply below_drew1)|exact HB.out))):w.heap.size≤gb1));clear HB;have HB:=n0_;have BK1:=n1_;have GW1:=n2_;have GE1:=n3_;clear n0_ n1_ n2_ n3_;clear hb hbox hg;have hcz8_0:w7.cell? ⟨gb1,0,none⟩=some (.int .i64 a0_0):=(blk_cell BK1.out 0).trans rfl;have hcz8_1:w7.cell? ⟨gb1,1,none⟩=some (.int .i64 a0_1):=(blk_cell BK1.out 1).trans rfl;have hcz8_2:w7.cell? ⟨gb1,2,none⟩=some (.int .i64 a0_2):=(blk_cell BK1.out 2).trans rfl;have hcz8_3:w7.cell? ⟨gb1,3,none⟩=some (.int .i64 a0_3):=(blk_cell BK1.out 3).trans rfl;have hcz8_4:w7.cell? ⟨gb1,4,none⟩=some (.string a0_4):=(blk_cell BK1.out 4).trans rfl;have hfz8_0:=blk_frozen BK1.out 0;have hfz8_1:=blk_frozen BK1.out 1;have hfz8_2:=blk_frozen BK1.out 2;have hfz8_3:=blk_frozen BK1.out 3;have hfz8_4:=blk_frozen BK1.out 4)|((with_reducible refine gate_callee (f:=49) rfl ?_);refine goesL_ (some 7) rfl rfl Tryz.func49 (by kernel_rfl) rfl #[.int .i64 a0_1] rfl (by (try simp only [List.map_toArray,List.map_cons,List.map_nil]);first|done|rfl) ?_;(with_reducible refine (narcissusref01_Number.calls a0_1 t2 _ A2.out).mono ?_);rintro e w9 ⟨rfl,hb⟩;refine ⟨_,rfl,?_⟩;have n0_:=Aside0.mk (blk_below (g:=gb1) (o:=.cells #[.int .i64 a0_0,.int .i64 a0_1,.int .i64 a0_2,.int .i64 a0_3,.string a0_4] 42 (0,0)) (by (with_reducible repeat (first|refine blk_drewN ?_ _|refine blk_drew ?_|refine blk_alloc ?_ _));exact BK1.out) hb);have n1_:=Aside0.mk (below_step (by repeat (first|(with_reducible first|exact HB.out|apply below_alloc|apply pw_below_drewN|apply below_drew1|refine below_set ?_ GE1.out)|exact HB.out)) hb);clear BK1;clear HB;have BK1:=n0_;have HB:=n1_;clear n0_ n1_;(try clear hb);(try clear hb2);(try clear hk);(try clear hi);have hcz10_0:w9.cell? ⟨gb1,0,none⟩=some (.int .i64 a0_0):=(blk_cell BK1.out 0).trans rfl;have hcz10_1:w9.cell? ⟨gb1,1,none⟩=some (.int .i64 a0_1):=(blk_cell BK1.out 1).trans rfl;have hcz10_2:w9.cell? ⟨gb1,2,none⟩=some (.int .i64 a0_2):=(blk_cell BK1.out 2).trans rfl;have hcz10_3:w9.cell? ⟨gb1,3,none⟩=some (.int .i64 a0_3):=(blk_cell BK1.out 3).trans rfl;have hcz10_4:w9.cell? ⟨gb1,4,none⟩=some (.string a0_4):=(blk_cell BK1.out 4).trans rfl;have hfz10_0:=blk_frozen BK1.out 0;have hfz10_1:=blk_frozen BK1.out 1;have hfz10_2:=blk_frozen BK1.out 2;have hfz10_3:=blk_frozen BK1.out 3;have hfz10_4:=blk_frozen BK1.out 4)|((with_reducible refine gate_callee (f:=50) rfl ?_);refine goesL_ (some 15) rfl rfl Tryz.func50 (by kernel_rfl) rfl #[.string t2,.string a0_4] rfl (by (try simp only [List.map_toArray,List.map_cons,List.map_nil]);first|done|rfl) ?_;(with_reducible refine (narcissusref02_pair.calls t2 a0_4 t3 _ A4.out).mono ?_);rintro e w' ⟨rfl,⟨nd,rfl⟩⟩;refine ⟨_,rfl,?_⟩)|((with_reducible refine gate_callee (f:=49) rfl ?_);refine goesL_ (some 57) rfl rfl Tryz.func49 (by kernel_rfl) rfl #[.int .i64 a0_0] rfl (by (try simp only [List.map_toArray,List.map_cons,List.map_nil]);first|done|rfl) ?_;(with_reducible refine (narcissusref01_Number.calls a0_0 t4 _ A5.out).mono ?_);rintro e w11 ⟨rfl,hb⟩;refine ⟨_,rfl,?_⟩;have n0_:=Aside0.mk (blk_below (g:=gb1) (o:=.cells #[.int .i64 a0_0,.int .i64 a0_1,.int .i64 a0_2,.int .i64 a0_3,.string a0_4] 42 (0,0)) (by (with_reducible repeat (first|refine blk_drewN ?_ _|refine blk_drew ?_|refine blk_alloc ?_ _));exact BK1.out) hb);have n1_:=Aside0.mk (below_step (by repeat (first|(with_reducible first|exact HB.out|apply below_alloc|apply pw_below_drewN|apply below_drew1|refine below_set ?_ GE1.out)|exact HB.out)) hb);clear BK1;clear HB;have BK1:=n0_;have HB:=n1_;clear n0_ n1_;(try clear hb);(try clear hb2);(try clear hk);(try clear hi))|((with_reducible refine gate_callee (f:=50) rfl ?_);refine goesL_ (some 59) rfl rfl Tryz.func50 (by kernel_rfl) rfl #[.string t4,.string t3] rfl (by (try simp only [List.map_toArray,List.map_cons,List.map_nil]);first|done|rfl) ?_;(with_reducible refine (narcissusref02_pair.calls t4 t3 t5 _ A6.out).mono ?_);rintro e w' ⟨rfl,⟨nd,rfl⟩⟩;refine ⟨_,rfl,?_⟩))
  go_ret
  exact ⟨by first|rfl|(simp [errW_none,errW_some]<;>rfl)|(simp [*,errW_none,errW_some]<;>rfl),by repeat (first|(with_reducible first|exact HB.out|apply below_alloc|apply pw_below_drewN|apply below_drew1|refine below_set ?_ GE1.out)|exact HB.out)⟩
 ·rw [if_neg c3] at H
  have c3b0:(a0_0 == 0)=false:=beq_eq_false_iff_ne.mpr c3
  have c3b1:(a0_0 != 0)=true:=bne_iff_ne.mpr c3
  have HC12:=Aside0.mk H
  clear H;go_enter Tryz.func20,Tryz.ntmps20
  go_upto_if 16 with (first|((with_reducible refine gate_dst (N:=1) rfl ?_);refine box_event ?hg (N:=1) ?hd (cs:=#[.int .i64 a0_0,.int .i64 a0_1,.int .i64 a0_2,.int .i64 a0_3,.string a0_4]) (t:=42) ?hr ?_;(case hd=>rfl);(case hg=>rfl);(case hr=>first|(go_simp;done)|(go_simp;rfl));intro gb1 hg w13 hbox hb;have n0_:=Aside0.mk (below_step (by repeat (first|(with_reducible first|exact HB.out|apply below_alloc|apply pw_below_drewN|apply below_drew1)|exact HB.out)) hb);have n1_:=Aside0.mk (hbox);have n2_:=Aside0.mk ((by rw [hg];exact (below_size (by repeat (first|(with_reducible first|exact HB.out|apply below_alloc|apply pw_below_drewN|apply below_drew1)|exact HB.out))):w.heap.size≤gb1));have n3_:=Aside0.mk ((by rw [hg];exact (below_size (by repeat (first|(with_reducible first|exact HB.out|apply below_alloc|apply pw_below_drewN|apply below_drew1)|exact HB.out))):w.heap.size≤gb1));clear HB;have HB:=n0_;have BK1:=n1_;have GW1:=n2_;have GE1:=n3_;clear n0_ n1_ n2_ n3_;clear hb hbox hg;have hcz14_0:w13.cell? ⟨gb1,0,none⟩=some (.int .i64 a0_0):=(blk_cell BK1.out 0).trans rfl;have hcz14_1:w13.cell? ⟨gb1,1,none⟩=some (.int .i64 a0_1):=(blk_cell BK1.out 1).trans rfl;have hcz14_2:w13.cell? ⟨gb1,2,none⟩=some (.int .i64 a0_2):=(blk_cell BK1.out 2).trans rfl;have hcz14_3:w13.cell? ⟨gb1,3,none⟩=some (.int .i64 a0_3):=(blk_cell BK1.out 3).trans rfl;have hcz14_4:w13.cell? ⟨gb1,4,none⟩=some (.string a0_4):=(blk_cell BK1.out 4).trans rfl;have hfz14_0:=blk_frozen BK1.out 0;have hfz14_1:=blk_frozen BK1.out 1;have hfz14_2:=blk_frozen BK1.out 2;have hfz14_3:=blk_frozen BK1.out 3;have hfz14_4:=blk_frozen BK1.out 4)|((with_reducible refine gate_callee (f:=49) rfl ?_);refine goesL_ (some 7) rfl rfl Tryz.func49 (by kernel_rfl) rfl #[.int .i64 a0_1] rfl (by (try simp only [List.map_toArray,List.map_cons,List.map_nil]);first|done|rfl) ?_;(with_reducible refine (narcissusref01_Number.calls a0_1 t2 _ A2.out).mono ?_);rintro e w15 ⟨rfl,hb⟩;refine ⟨_,rfl,?_⟩;have n0_:=Aside0.mk (blk_below (g:=gb1) (o:=.cells #[.int .i64 a0_0,.int .i64 a0_1,.int .i64 a0_2,.int .i64 a0_3,.string a0_4] 42 (0,0)) (by (with_reducible repeat (first|refine blk_drewN ?_ _|refine blk_drew ?_|refine blk_alloc ?_ _));exact BK1.out) hb);have n1_:=Aside0.mk (below_step (by repeat (first|(with_reducible first|exact HB.out|apply below_alloc|apply pw_below_drewN|apply below_drew1|refine below_set ?_ GE1.out)|exact HB.out)) hb);clear BK1;clear HB;have BK1:=n0_;have HB:=n1_;clear n0_ n1_;(try clear hb);(try clear hb2);(try clear hk);(try clear hi);have hcz16_0:w15.cell? ⟨gb1,0,none⟩=some (.int .i64 a0_0):=(blk_cell BK1.out 0).trans rfl;have hcz16_1:w15.cell? ⟨gb1,1,none⟩=some (.int .i64 a0_1):=(blk_cell BK1.out 1).trans rfl;have hcz16_2:w15.cell? ⟨gb1,2,none⟩=some (.int .i64 a0_2):=(blk_cell BK1.out 2).trans rfl;have hcz16_3:w15.cell? ⟨gb1,3,none⟩=some (.int .i64 a0_3):=(blk_cell BK1.out 3).trans rfl;have hcz16_4:w15.cell? ⟨gb1,4,none⟩=some (.string a0_4):=(blk_cell BK1.out 4).trans rfl;have hfz16_0:=blk_frozen BK1.out 0;have hfz16_1:=blk_frozen BK1.out 1;have hfz16_2:=blk_frozen BK1.out 2;have hfz16_3:=blk_frozen BK1.out 3;have hfz16_4:=blk_frozen BK1.out 4))
  (try simp only [Act.put,List.setIfInBounds_toArray,List.set_cons_zero,List.set_cons_succ])
  go_cut [16] (fun v16 wc => ∃ (kq:Nat) (x16_11:Bool),v16 = .bool x16_11∧Aside0 (narcissusref02_CodeOf.j0 kq t2 (⟨#[]⟩:ByteArray) a0_0 x16_11 a0_0 a0_1 a0_2 a0_3 a0_4=some r)∧Aside0 (kq≤k)∧Aside0 (wc.heap[gb1]? = some (.cells #[.int .i64 a0_0,.int .i64 a0_1,.int .i64 a0_2,.int .i64 a0_3,.string a0_4] 42 (0,0)))∧Aside0 (Below w.heap.size w wc))
  case first =>
   have H:=HC12.out
   clear HC12;by_cases c17:a0_0=1
   ·rw [if_pos c17] at H
    have c17b0:(a0_0 == 1)=true:=beq_iff_eq.mpr c17
    have c17b1:(a0_0 != 1)=false:=bne_eq_false_iff_eq.mpr c17
    clear c17;(first|rw [c17b0]|(simp only [i64_w,i32_w];rw [c17b0])|skip)
    have H':=Aside0.mk H
    clear H;go_wp2
    go_meet
    case rel=>exact ⟨_,((a0_0 == 1)),(by first|rfl|(simp;done)|(simp [*];done)),H',⟨by first|omega|exact Nat.le_refl _⟩,⟨by (with_reducible repeat (first|refine blk_drewN ?_ _|refine blk_drew ?_|refine blk_alloc ?_ _));exact BK1.out⟩,⟨by repeat (first|(with_reducible first|exact HB.out|apply below_alloc|apply pw_below_drewN|apply below_drew1|refine below_set ?_ GE1.out)|exact HB.out)⟩⟩
   ·rw [if_neg c17] at H
    have c17b0:(a0_0 == 1)=false:=beq_eq_false_iff_ne.mpr c17
    have c17b1:(a0_0 != 1)=true:=bne_iff_ne.mpr c17
    (first|rw [c17b0]|(simp only [i64_w,i32_w];rw [c17b0])|skip)
    by_cases c18:a0_0=3
    ·rw [if_pos c18] at H
     have c18b0:(a0_0 == 3)=true:=beq_iff_eq.mpr c18
     have c18b1:(a0_0 != 3)=false:=bne_eq_false_iff_eq.mpr c18
     clear c18;have H':=Aside0.mk H
     clear H;go_wp2
     go_meet
     case rel=>exact ⟨_,((a0_0 == 3)),(by first|rfl|(simp;done)|(simp [*];done)),H',⟨by first|omega|exact Nat.le_refl _⟩,⟨by (with_reducible repeat (first|refine blk_drewN ?_ _|refine blk_drew ?_|refine blk_alloc ?_ _));exact BK1.out⟩,⟨by repeat (first|(with_reducible first|exact HB.out|apply below_alloc|apply pw_below_drewN|apply below_drew1|refine below_set ?_ GE1.out)|exact HB.out)⟩⟩
    ·rw [if_neg c18] at H
     have c18b0:(a0_0 == 3)=false:=beq_eq_false_iff_ne.mpr c18
     have c18b1:(a0_0 != 3)=true:=bne_iff_ne.mpr c18
     have H':=Aside0.mk H
     clear H;go_wp2
     go_meet
     case rel=>exact ⟨_,((a0_0 == 4)),(by first|rfl|(simp;done)|(simp [*];done)),H',⟨by first|omega|exact Nat.le_refl _⟩,⟨by (with_reducible repeat (first|refine blk_drewN ?_ _|refine blk_drew ?_|refine blk_alloc ?_ _));exact BK1.out⟩,⟨by repeat (first|(with_reducible first|exact HB.out|apply below_alloc|apply pw_below_drewN|apply below_drew1|refine below_set ?_ GE1.out)|exact HB.out)⟩⟩
  case rest =>
   clear HC12;try clear c1
   try clear c2
   try clear p2
   try clear c3
   try clear c3b0
   try clear c3b1
   try clear c4
   try clear c5
   try clear c17
   try clear c17b0
   try clear c17b1
   try clear c18
   try clear c18b0
   try clear c18b1
   try clear hcz10_0
   try clear hcz10_1
   try clear hcz10_2
   try clear hcz10_3
   try clear hcz10_4
   try clear hcz14_0
   try clear hcz14_1
   try clear hcz14_2
   try clear hcz14_3
   try clear hcz14_4
   try clear hcz16_0
   try clear hcz16_1
   try clear hcz16_2
   try clear hcz16_3
   try clear hcz16_4
   try clear hcz8_0
   try clear hcz8_1
   try clear hcz8_2
   try clear hcz8_3
   try clear hcz8_4
   try clear hfz10_0
   try clear hfz10_1
   try clear hfz10_2
   try clear hfz10_3
   try clear hfz10_4
   try clear hfz14_0
   try clear hfz14_1
   try clear hfz14_2
   try clear hfz14_3
   try clear hfz14_4
   try clear hfz16_0
   try clear hfz16_1
   try clear hfz16_2
   try clear hfz16_3
   try clear hfz16_4
   try clear hfz8_0
   try clear hfz8_1
   try clear hfz8_2
   try clear hfz8_3
   try clear hfz8_4
   obtain ⟨kq,x16_11,rfl,HA,HJ11,BK1,HB⟩:=hcut
   cases kq with
   | zero=>exact absurd HA.out (by simp [narcissusref02_CodeOf.j0])
   | succ kj11 =>
    have H:=HA.out
    clear HA;simp only [narcissusref02_CodeOf.j0] at H
    by_cases c19:x16_11=true
    ·subst c19
     have H1:((narcissusref01_Number.f a0_2).bind fun t6=>((narcissusref02_pair.f t2 t6).bind fun t7=>((narcissusref01_Number.f a0_0).bind fun t8=>((narcissusref02_pair.f t8 t7).bind fun t9=>(some t9)))))=some r:=by rw [if_pos rfl] at H;exact H
     clear H;have H:=H1
     clear H1;replace H:=Option.bind_eq_some_iff.mp H
     obtain ⟨t6,A200,H⟩:=H
     replace H:((narcissusref02_pair.f t2 t6).bind fun t7=>((narcissusref01_Number.f a0_0).bind fun t8=>((narcissusref02_pair.f t8 t7).bind fun t9=>(some t9))))=some r:=H
     have A20:=Aside0.mk A200
     clear A200;replace H:=Option.bind_eq_some_iff.mp H
     obtain ⟨t7,A210,H⟩:=H
     replace H:((narcissusref01_Number.f a0_0).bind fun t8=>((narcissusref02_pair.f t8 t7).bind fun t9=>(some t9)))=some r:=H
     have A21:=Aside0.mk A210
     clear A210;replace H:=Option.bind_eq_some_iff.mp H
     obtain ⟨t8,A220,H⟩:=H
     replace H:((narcissusref02_pair.f t8 t7).bind fun t9=>(some t9))=some r:=H
     have A22:=Aside0.mk A220
     clear A220;replace H:=Option.bind_eq_some_iff.mp H
     obtain ⟨t9,A230,H⟩:=H
     replace H:(some t9)=some r:=H
     have A23:=Aside0.mk A230
     clear A230;obtain rfl:=Option.some.inj H
     have hcz24_0:wc.cell? ⟨gb1,0,none⟩=some (.int .i64 a0_0):=(blk_cell BK1.out 0).trans rfl
     have hcz24_1:wc.cell? ⟨gb1,1,none⟩=some (.int .i64 a0_1):=(blk_cell BK1.out 1).trans rfl
     have hcz24_2:wc.cell? ⟨gb1,2,none⟩=some (.int .i64 a0_2):=(blk_cell BK1.out 2).trans rfl
     have hcz24_3:wc.cell? ⟨gb1,3,none⟩=some (.int .i64 a0_3):=(blk_cell BK1.out 3).trans rfl
     have hcz24_4:wc.cell? ⟨gb1,4,none⟩=some (.string a0_4):=(blk_cell BK1.out 4).trans rfl
     have hfz24_0:=blk_frozen BK1.out 0
     have hfz24_1:=blk_frozen BK1.out 1
     have hfz24_2:=blk_frozen BK1.out 2
     have hfz24_3:=blk_frozen BK1.out 3
     have hfz24_4:=blk_frozen BK1.out 4
     go_wp2_with (first|((with_reducible refine gate_callee (f:=49) rfl ?_);refine goesL_ (some 23) rfl rfl Tryz.func49 (by kernel_rfl) rfl #[.int .i64 a0_2] rfl (by (try simp only [List.map_toArray,List.map_cons,List.map_nil]);first|done|rfl) ?_;(with_reducible refine (narcissusref01_Number.calls a0_2 t6 _ A20.out).mono ?_);rintro e w25 ⟨rfl,hb⟩;refine ⟨_,rfl,?_⟩;have n0_:=Aside0.mk (blk_below (g:=gb1) (o:=.cells #[.int .i64 a0_0,.int .i64 a0_1,.int .i64 a0_2,.int .i64 a0_3,.string a0_4] 42 (0,0)) (by (with_reducible repeat (first|refine blk_drewN ?_ _|refine blk_drew ?_|refine blk_alloc ?_ _));exact BK1.out) hb);have n1_:=Aside0.mk (below_step (by repeat (first|(with_reducible first|exact HB.out|apply below_alloc|apply pw_below_drewN|apply below_drew1|refine below_set ?_ GE1.out)|exact HB.out)) hb);clear BK1;clear HB;have BK1:=n0_;have HB:=n1_;clear n0_ n1_;(try clear hb);(try clear hb2);(try clear hk);(try clear hi))|((with_reducible refine gate_callee (f:=50) rfl ?_);refine goesL_ (some 24) rfl rfl Tryz.func50 (by kernel_rfl) rfl #[.string t2,.string t6] rfl (by (try simp only [List.map_toArray,List.map_cons,List.map_nil]);first|done|rfl) ?_;(with_reducible refine (narcissusref02_pair.calls t2 t6 t7 _ A21.out).mono ?_);rintro e w' ⟨rfl,⟨nd,rfl⟩⟩;refine ⟨_,rfl,?_⟩;have hcz26_0:w25.cell? ⟨gb1,0,none⟩=some (.int .i64 a0_0):=(blk_cell BK1.out 0).trans rfl;have hcz26_1:w25.cell? ⟨gb1,1,none⟩=some (.int .i64 a0_1):=(blk_cell BK1.out 1).trans rfl;have hcz26_2:w25.cell? ⟨gb1,2,none⟩=some (.int .i64 a0_2):=(blk_cell BK1.out 2).trans rfl;have hcz26_3:w25.cell? ⟨gb1,3,none⟩=some (.int .i64 a0_3):=(blk_cell BK1.out 3).trans rfl;have hcz26_4:w25.cell? ⟨gb1,4,none⟩=some (.string a0_4):=(blk_cell BK1.out 4).trans rfl;have hfz26_0:=blk_frozen BK1.out 0;have hfz26_1:=blk_frozen BK1.out 1;have hfz26_2:=blk_frozen BK1.out 2;have hfz26_3:=blk_frozen BK1.out 3;have hfz26_4:=blk_frozen BK1.out 4)|((with_reducible refine gate_callee (f:=49) rfl ?_);refine goesL_ (some 57) rfl rfl Tryz.func49 (by kernel_rfl) rfl #[.int .i64 a0_0] rfl (by (try simp only [List.map_toArray,List.map_cons,List.map_nil]);first|done|rfl) ?_;(with_reducible refine (narcissusref01_Number.calls a0_0 t8 _ A22.out).mono ?_);rintro e w27 ⟨rfl,hb⟩;refine ⟨_,rfl,?_⟩;have n0_:=Aside0.mk (blk_below (g:=gb1) (o:=.cells #[.int .i64 a0_0,.int .i64 a0_1,.int .i64 a0_2,.int .i64 a0_3,.string a0_4] 42 (0,0)) (by (with_reducible repeat (first|refine blk_drewN ?_ _|refine blk_drew ?_|refine blk_alloc ?_ _));exact BK1.out) hb);have n1_:=Aside0.mk (below_step (by repeat (first|(with_reducible first|exact HB.out|apply below_alloc|apply pw_below_drewN|apply below_drew1|refine below_set ?_ GE1.out)|exact HB.out)) hb);clear BK1;clear HB;have BK1:=n0_;have HB:=n1_;clear n0_ n1_;(try clear hb);(try clear hb2);(try clear hk);(try clear hi))|((with_reducible refine gate_callee (f:=50) rfl ?_);refine goesL_ (some 59) rfl rfl Tryz.func50 (by kernel_rfl) rfl #[.string t8,.string t7] rfl (by (try simp only [List.map_toArray,List.map_cons,List.map_nil]);first|done|rfl) ?_;(with_reducible refine (narcissusref02_pair.calls t8 t7 t9 _ A23.out).mono ?_);rintro e w' ⟨rfl,⟨nd,rfl⟩⟩;refine ⟨_,rfl,?_⟩))
     go_ret
     exact ⟨by first|rfl|(simp [errW_none,errW_some]<;>rfl)|(simp [*,errW_none,errW_some]<;>rfl),by repeat (first|(with_reducible first|exact HB.out|apply below_alloc|apply pw_below_drewN|apply below_drew1|refine below_set ?_ GE1.out)|exact HB.out)⟩
    ·replace c19:=Bool.eq_false_iff.mpr c19
     subst c19;have H1:(if a0_0=2 then ((narcissusref01_Number.f a0_2).bind fun t10=>((narcissusref01_Number.f a0_3).bind fun t11=>((narcissusref02_pair.f t10 t11).bind fun t12=>((narcissusref02_pair.f t2 t12).bind fun t13=>((narcissusref01_Number.f a0_0).bind fun t14=>((narcissusref02_pair.f t14 t13).bind fun t15=>(some t15))))))) else (if a0_0=5 then ((narcissusref01_Number.f (mx a0_2 0)).bind fun t16=>((narcissusref02_pair.f (⟨#[48]⟩:ByteArray) t16).bind fun t17=>((narcissusref02_pair.f t2 t17).bind fun t18=>(if a0_2<0 then ((narcissusref01_Number.f (wrap64 (-a0_2))).bind fun t19=>((narcissusref02_pair.f (⟨#[49,48,48]⟩:ByteArray) t19).bind fun t20=>((narcissusref02_pair.f t2 t20).bind fun t21=>((narcissusref01_Number.f a0_0).bind fun t22=>((narcissusref02_pair.f t22 t21).bind fun t23=>(some t23)))))) else ((narcissusref01_Number.f a0_0).bind fun t24=>((narcissusref02_pair.f t24 t18).bind fun t25=>(some t25))))))) else ((narcissusref01_Number.f a0_0).bind fun t26=>((narcissusref02_pair.f t26 (⟨#[]⟩:ByteArray)).bind fun t27=>(some t27)))))=some r:=by rw [if_neg (show ¬ (false=true) by decide)] at H;exact H
     clear H;have H:=H1
     clear H1;by_cases c28:a0_0=2
     ·rw [if_pos c28] at H
      have c28b0:(a0_0 == 2)=true:=beq_iff_eq.mpr c28
      have c28b1:(a0_0 != 2)=false:=bne_eq_false_iff_eq.mpr c28
      clear c28;replace H:=Option.bind_eq_some_iff.mp H
      obtain ⟨t10,A290,H⟩:=H
      replace H:((narcissusref01_Number.f a0_3).bind fun t11=>((narcissusref02_pair.f t10 t11).bind fun t12=>((narcissusref02_pair.f t2 t12).bind fun t13=>((narcissusref01_Number.f a0_0).bind fun t14=>((narcissusref02_pair.f t14 t13).bind fun t15=>(some t15))))))=some r:=H
      have A29:=Aside0.mk A290
      clear A290;replace H:=Option.bind_eq_some_iff.mp H
      obtain ⟨t11,A300,H⟩:=H
      replace H:((narcissusref02_pair.f t10 t11).bind fun t12=>((narcissusref02_pair.f t2 t12).bind fun t13=>((narcissusref01_Number.f a0_0).bind fun t14=>((narcissusref02_pair.f t14 t13).bind fun t15=>(some t15)))))=some r:=H
      have A30:=Aside0.mk A300
      clear A300;replace H:=Option.bind_eq_some_iff.mp H
      obtain ⟨t12,A310,H⟩:=H
      replace H:((narcissusref02_pair.f t2 t12).bind fun t13=>((narcissusref01_Number.f a0_0).bind fun t14=>((narcissusref02_pair.f t14 t13).bind fun t15=>(some t15))))=some r:=H
      have A31:=Aside0.mk A310
      clear A310;replace H:=Option.bind_eq_some_iff.mp H
      obtain ⟨t13,A320,H⟩:=H
      replace H:((narcissusref01_Number.f a0_0).bind fun t14=>((narcissusref02_pair.f t14 t13).bind fun t15=>(some t15)))=some r:=H
      have A32:=Aside0.mk A320
      clear A320;replace H:=Option.bind_eq_some_iff.mp H
      obtain ⟨t14,A330,H⟩:=H
      replace H:((narcissusref02_pair.f t14 t13).bind fun t15=>(some t15))=some r:=H
      have A33:=Aside0.mk A330
      clear A330;replace H:=Option.bind_eq_some_iff.mp H
      obtain ⟨t15,A340,H⟩:=H
      replace H:(some t15)=some r:=H
      have A34:=Aside0.mk A340
      clear A340;obtain rfl:=Option.some.inj H
      try go_wp2
      have n0_:=Aside0.mk (blk_drew BK1.out)
      have n1_:=Aside0.mk (below_drew1 HB.out)
      clear BK1 HB;have BK1:=n0_;have HB:=n1_;clear n0_ n1_;refine start_ (n:=10) (S:=fun w'=>w'.cell? ⟨gb1,0,none⟩=some (.int .i64 a0_0)∧w'.cell? ⟨gb1,1,none⟩=some (.int .i64 a0_1)∧w'.cell? ⟨gb1,2,none⟩=some (.int .i64 a0_2)∧w'.cell? ⟨gb1,3,none⟩=some (.int .i64 a0_3)∧w'.cell? ⟨gb1,4,none⟩=some (.string a0_4)) (ds:=[]) #[false,false,false,false,false,false,false,false,false,false] (by kernel_rfl) rfl rfl ⟨(blk_cell BK1.out 0).trans rfl,(blk_cell BK1.out 1).trans rfl,(blk_cell BK1.out 2).trans rfl,(blk_cell BK1.out 3).trans rfl,(blk_cell BK1.out 4).trans rfl⟩ (fun hHeld=>?_);refine with_tabW narcissusref02_CodeOf.tab11 narcissusref02_CodeOf.bits11 (fun HT_ HW_=>?_)
      generalize wc.drew=w35 at BK1 HB hHeld ⊢
      refine pure_ (i:=0) (N:=some 27) (v:=?_) (a':=?_) #[true,false,false,false,false,false,false,false,false,false] rfl rfl (any_of HT_.out (by kernel_rfl)) (fun _ _ _ h=>h) (Or.inl ⟨by rfl,?_⟩) ?_ ?_
      rotate_left
      ·intro w'
       go_simp
       with_reducible rfl
      rotate_left
      ·simp only [Act.put,List.setIfInBounds_toArray,List.set_cons_zero,List.set_cons_succ,i64_w,i32_w]
       rfl
      refine pure_ (i:=1) (N:=some 28) (v:=?_) (a':=?_) #[true,true,false,false,false,false,false,false,false,false] rfl rfl (any_of HT_.out (by kernel_rfl)) (fun _ _ _ h=>h) (Or.inl ⟨by rfl,?_⟩) ?_ ?_
      rotate_left
      ·intro w'
       go_simp
       with_reducible rfl
      rotate_left
      ·simp only [Act.put,List.setIfInBounds_toArray,List.set_cons_zero,List.set_cons_succ,i64_w,i32_w]
       rfl
      refine pure_ (i:=4) (N:=some 31) (v:=?_) (a':=?_) #[true,true,false,false,true,false,false,false,false,false] rfl rfl (any_of HT_.out (by kernel_rfl)) (fun _ _ _ h=>h) (Or.inl ⟨by rfl,?_⟩) ?_ ?_
      rotate_left
      ·intro w'
       go_simp
       with_reducible rfl
      rotate_left
      ·simp only [Act.put,List.setIfInBounds_toArray,List.set_cons_zero,List.set_cons_succ,i64_w,i32_w]
       rfl
      refine take_ (i:=2) (N:=some 29) (v:=?_) (a':=?_) #[true,true,true,false,true,false,false,false,false,false] rfl rfl (take_ofW HT_.out HW_.out (by kernel_rfl)) (fun _ _ _ h=>h) (Or.inl ⟨by rfl,?_⟩) hHeld ?_ ?_
      rotate_left
      ·rintro w' ⟨s0,s1,s2,s3,s4⟩
       go_simp
       with_reducible rfl
      rotate_left
      ·simp only [Act.put,List.setIfInBounds_toArray,List.set_cons_zero,List.set_cons_succ,i64_w,i32_w]
       rfl
      refine take_ (i:=5) (N:=some 32) (v:=?_) (a':=?_) #[true,true,true,false,true,true,false,false,false,false] rfl rfl (take_ofW HT_.out HW_.out (by kernel_rfl)) (fun _ _ _ h=>h) (Or.inl ⟨by rfl,?_⟩) hHeld ?_ ?_
      rotate_left
      ·rintro w' ⟨s0,s1,s2,s3,s4⟩
       go_simp
       with_reducible rfl
      rotate_left
      ·simp only [Act.put,List.setIfInBounds_toArray,List.set_cons_zero,List.set_cons_succ,i64_w,i32_w]
       rfl
      refine one_ (i:=3) (N:=some 30) #[true,true,true,true,true,true,false,false,false,false] rfl rfl (one_of HT_.out (by kernel_rfl)) (by decide) (fun K hK=>?_)
      refine goes_ Tryz.func49 (by kernel_rfl) rfl #[.int .i64 a0_2] (by rfl) rfl rfl (by (try simp only [List.map_toArray,List.map_cons,List.map_nil]);first|done|rfl) ?_
      with_reducible refine (narcissusref01_Number.calls a0_2 t10 _ A29.out).mono ?_
      rintro e w36 ⟨rfl,hb⟩
      refine ⟨_,rfl,?_⟩
      have n0_:=Aside0.mk (blk_below (g:=gb1) (o:=.cells #[.int .i64 a0_0,.int .i64 a0_1,.int .i64 a0_2,.int .i64 a0_3,.string a0_4] 42 (0,0)) (by (with_reducible repeat (first|refine blk_drewN ?_ _|refine blk_drew ?_|refine blk_alloc ?_ _));exact BK1.out) hb)
      have n1_:=Aside0.mk (below_step (by repeat (first|(with_reducible first|exact HB.out|apply below_alloc|apply pw_below_drewN|apply below_drew1|refine below_set ?_ GE1.out)|exact HB.out)) hb)
      clear BK1 HB;have BK1:=n0_;have HB:=n1_;clear n0_ n1_;(try clear hb)
      (try clear hb2)
      (try clear hk)
      (try clear hi)
      refine hK.out _ _ ⟨(blk_cell BK1.out 0).trans rfl,(blk_cell BK1.out 1).trans rfl,(blk_cell BK1.out 2).trans rfl,(blk_cell BK1.out 3).trans rfl,(blk_cell BK1.out 4).trans rfl⟩ (fun hHeld=>?_)
      clear hK K;refine norm_ (a':=?_) ?_ ?_
      rotate_left
      ·show Act.put _ (some 30) _=_
       simp only [Act.put,List.setIfInBounds_toArray,List.set_cons_zero,List.set_cons_succ,i64_w,i32_w]
       rfl
      refine one_ (i:=6) (N:=some 33) #[true,true,true,true,true,true,true,false,false,false] rfl rfl (one_of HT_.out (by kernel_rfl)) (by decide) (fun K hK=>?_)
      refine goes_ Tryz.func49 (by kernel_rfl) rfl #[.int .i64 a0_3] (by rfl) rfl rfl (by (try simp only [List.map_toArray,List.map_cons,List.map_nil]);first|done|rfl) ?_
      with_reducible refine (narcissusref01_Number.calls a0_3 t11 _ A30.out).mono ?_
      rintro e w37 ⟨rfl,hb⟩
      refine ⟨_,rfl,?_⟩
      have n0_:=Aside0.mk (blk_below (g:=gb1) (o:=.cells #[.int .i64 a0_0,.int .i64 a0_1,.int .i64 a0_2,.int .i64 a0_3,.string a0_4] 42 (0,0)) (by (with_reducible repeat (first|refine blk_drewN ?_ _|refine blk_drew ?_|refine blk_alloc ?_ _));exact BK1.out) hb)
      have n1_:=Aside0.mk (below_step (by repeat (first|(with_reducible first|exact HB.out|apply below_alloc|apply pw_below_drewN|apply below_drew1|refine below_set ?_ GE1.out)|exact HB.out)) hb)
      clear BK1 HB;have BK1:=n0_;have HB:=n1_;clear n0_ n1_;(try clear hb)
      (try clear hb2)
      (try clear hk)
      (try clear hi)
      refine hK.out _ _ ⟨(blk_cell BK1.out 0).trans rfl,(blk_cell BK1.out 1).trans rfl,(blk_cell BK1.out 2).trans rfl,(blk_cell BK1.out 3).trans rfl,(blk_cell BK1.out 4).trans rfl⟩ (fun hHeld=>?_)
      clear hK K;refine norm_ (a':=?_) ?_ ?_
      rotate_left
      ·show Act.put _ (some 33) _=_
       simp only [Act.put,List.setIfInBounds_toArray,List.set_cons_zero,List.set_cons_succ,i64_w,i32_w]
       rfl
      refine one_ (i:=7) (N:=some 34) #[true,true,true,true,true,true,true,true,false,false] rfl rfl (one_of HT_.out (by kernel_rfl)) (by decide) (fun K hK=>?_)
      refine goes_ Tryz.func50 (by kernel_rfl) rfl #[.string t10,.string t11] (by rfl) rfl rfl (by (try simp only [List.map_toArray,List.map_cons,List.map_nil]);first|done|rfl) ?_
      with_reducible refine (narcissusref02_pair.calls t10 t11 t12 _ A31.out).mono ?_
      rintro e w' ⟨rfl,⟨nd,rfl⟩⟩
      refine ⟨_,rfl,?_⟩
      refine hK.out _ _ ⟨(blk_cell BK1.out 0).trans rfl,(blk_cell BK1.out 1).trans rfl,(blk_cell BK1.out 2).trans rfl,(blk_cell BK1.out 3).trans rfl,(blk_cell BK1.out 4).trans rfl⟩ (fun hHeld=>?_)
      clear hK K;refine norm_ (a':=?_) ?_ ?_
      rotate_left
      ·show Act.put _ (some 34) _=_
       simp only [Act.put,List.setIfInBounds_toArray,List.set_cons_zero,List.set_cons_succ,i64_w,i32_w]
       rfl
      refine one_ (i:=8) (N:=some 35) #[true,true,true,true,true,true,true,true,true,false] rfl rfl (one_of HT_.out (by kernel_rfl)) (by decide) (fun K hK=>?_)
      refine goes_ Tryz.func50 (by kernel_rfl) rfl #[.string t2,.string t12] (by rfl) rfl rfl (by (try simp only [List.map_toArray,List.map_cons,List.map_nil]);first|done|rfl) ?_
      with_reducible refine (narcissusref02_pair.calls t2 t12 t13 _ A32.out).mono ?_
      rintro e w' ⟨rfl,⟨nd,rfl⟩⟩
      refine ⟨_,rfl,?_⟩
      refine hK.out _ _ ⟨(blk_cell BK1.out 0).trans rfl,(blk_cell BK1.out 1).trans rfl,(blk_cell BK1.out 2).trans rfl,(blk_cell BK1.out 3).trans rfl,(blk_cell BK1.out 4).trans rfl⟩ (fun hHeld=>?_)
      clear hK K;refine norm_ (a':=?_) ?_ ?_
      rotate_left
      ·show Act.put _ (some 35) _=_
       simp only [Act.put,List.setIfInBounds_toArray,List.set_cons_zero,List.set_cons_succ,i64_w,i32_w]
       rfl
      refine pure_ (i:=9) (N:=some 4) (v:=?_) (a':=?_) #[true,true,true,true,true,true,true,true,true,true] rfl rfl (any_of HT_.out (by kernel_rfl)) (fun _ _ _ h=>h) (Or.inl ⟨by rfl,?_⟩) ?_ ?_
      rotate_left
      ·intro w'
       go_simp
       with_reducible rfl
      rotate_left
      ·simp only [Act.put,List.setIfInBounds_toArray,List.set_cons_zero,List.set_cons_succ,i64_w,i32_w]
       rfl
      refine done_ (done_of HT_.out (by kernel_rfl)) ?_
      have hcz38_0:w37.cell? ⟨gb1,0,none⟩=some (.int .i64 a0_0):=(blk_cell BK1.out 0).trans rfl
      have hcz38_1:w37.cell? ⟨gb1,1,none⟩=some (.int .i64 a0_1):=(blk_cell BK1.out 1).trans rfl
      have hcz38_2:w37.cell? ⟨gb1,2,none⟩=some (.int .i64 a0_2):=(blk_cell BK1.out 2).trans rfl
      have hcz38_3:w37.cell? ⟨gb1,3,none⟩=some (.int .i64 a0_3):=(blk_cell BK1.out 3).trans rfl
      have hcz38_4:w37.cell? ⟨gb1,4,none⟩=some (.string a0_4):=(blk_cell BK1.out 4).trans rfl
      have hfz38_0:=blk_frozen BK1.out 0
      have hfz38_1:=blk_frozen BK1.out 1
      have hfz38_2:=blk_frozen BK1.out 2
      have hfz38_3:=blk_frozen BK1.out 3
      have hfz38_4:=blk_frozen BK1.out 4
      try go_wp2_with (first|((with_reducible refine gate_callee (f:=49) rfl ?_);refine goesL_ (some 57) rfl rfl Tryz.func49 (by kernel_rfl) rfl #[.int .i64 a0_0] rfl (by (try simp only [List.map_toArray,List.map_cons,List.map_nil]);first|done|rfl) ?_;(with_reducible refine (narcissusref01_Number.calls a0_0 t14 _ A33.out).mono ?_);rintro e w39 ⟨rfl,hb⟩;refine ⟨_,rfl,?_⟩;have n0_:=Aside0.mk (blk_below (g:=gb1) (o:=.cells #[.int .i64 a0_0,.int .i64 a0_1,.int .i64 a0_2,.int .i64 a0_3,.string a0_4] 42 (0,0)) (by (with_reducible repeat (first|refine blk_drewN ?_ _|refine blk_drew ?_|refine blk_alloc ?_ _));exact BK1.out) hb);have n1_:=Aside0.mk (below_step (by repeat (first|(with_reducible first|exact HB.out|apply below_alloc|apply pw_below_drewN|apply below_drew1|refine below_set ?_ GE1.out)|exact HB.out)) hb);clear BK1;clear HB;have BK1:=n0_;have HB:=n1_;clear n0_ n1_;(try clear hb);(try clear hb2);(try clear hk);(try clear hi))|((with_reducible refine gate_callee (f:=50) rfl ?_);refine goesL_ (some 59) rfl rfl Tryz.func50 (by kernel_rfl) rfl #[.string t14,.string t13] rfl (by (try simp only [List.map_toArray,List.map_cons,List.map_nil]);first|done|rfl) ?_;(with_reducible refine (narcissusref02_pair.calls t14 t13 t15 _ A34.out).mono ?_);rintro e w' ⟨rfl,⟨nd,rfl⟩⟩;refine ⟨_,rfl,?_⟩))
      go_ret
      exact ⟨by first|rfl|(simp [errW_none,errW_some]<;>rfl)|(simp [*,errW_none,errW_some]<;>rfl),by repeat (first|(with_reducible first|exact HB.out|apply below_alloc|apply pw_below_drewN|apply below_drew1|refine below_set ?_ GE1.out)|exact HB.out)⟩
     ·rw [if_neg c28] at H
      have c28b0:(a0_0 == 2)=false:=beq_eq_false_iff_ne.mpr c28
      have c28b1:(a0_0 != 2)=true:=bne_iff_ne.mpr c28
      by_cases c40:a0_0=5
      ·rw [if_pos c40] at H
       have c40b0:(a0_0 == 5)=true:=beq_iff_eq.mpr c40
       have c40b1:(a0_0 != 5)=false:=bne_eq_false_iff_eq.mpr c40
       clear c40;obtain ⟨ji41,hji41⟩ : ∃ j_:Int,(mx a0_2 0)=j_:=⟨_,rfl⟩
       replace H:((narcissusref01_Number.f (ji41)).bind fun t16=>((narcissusref02_pair.f (⟨#[48]⟩:ByteArray) t16).bind fun t17=>((narcissusref02_pair.f t2 t17).bind fun t18=>(if a0_2<0 then ((narcissusref01_Number.f (wrap64 (-a0_2))).bind fun t19=>((narcissusref02_pair.f (⟨#[49,48,48]⟩:ByteArray) t19).bind fun t20=>((narcissusref02_pair.f t2 t20).bind fun t21=>((narcissusref01_Number.f a0_0).bind fun t22=>((narcissusref02_pair.f t22 t21).bind fun t23=>(some t23)))))) else ((narcissusref01_Number.f a0_0).bind fun t24=>((narcissusref02_pair.f t24 t18).bind fun t25=>(some t25)))))))=some r:=by first|(rw [hji41] at H;exact H)|(simp only [hji41] at H ⊢;exact H)
       have hji41_:(if a0_2<0 then 0 else a0_2)=ji41:=hji41
       replace H:=Option.bind_eq_some_iff.mp H
       obtain ⟨t16,A420,H⟩:=H
       replace H:((narcissusref02_pair.f (⟨#[48]⟩:ByteArray) t16).bind fun t17=>((narcissusref02_pair.f t2 t17).bind fun t18=>(if a0_2<0 then ((narcissusref01_Number.f (wrap64 (-a0_2))).bind fun t19=>((narcissusref02_pair.f (⟨#[49,48,48]⟩:ByteArray) t19).bind fun t20=>((narcissusref02_pair.f t2 t20).bind fun t21=>((narcissusref01_Number.f a0_0).bind fun t22=>((narcissusref02_pair.f t22 t21).bind fun t23=>(some t23)))))) else ((narcissusref01_Number.f a0_0).bind fun t24=>((narcissusref02_pair.f t24 t18).bind fun t25=>(some t25))))))=some r:=H
       have A42:=Aside0.mk A420
       clear A420;replace H:=Option.bind_eq_some_iff.mp H
       obtain ⟨t17,A430,H⟩:=H
       replace H:((narcissusref02_pair.f t2 t17).bind fun t18=>(if a0_2<0 then ((narcissusref01_Number.f (wrap64 (-a0_2))).bind fun t19=>((narcissusref02_pair.f (⟨#[49,48,48]⟩:ByteArray) t19).bind fun t20=>((narcissusref02_pair.f t2 t20).bind fun t21=>((narcissusref01_Number.f a0_0).bind fun t22=>((narcissusref02_pair.f t22 t21).bind fun t23=>(some t23)))))) else ((narcissusref01_Number.f a0_0).bind fun t24=>((narcissusref02_pair.f t24 t18).bind fun t25=>(some t25)))))=some r:=H
       have A43:=Aside0.mk A430
       clear A430;replace H:=Option.bind_eq_some_iff.mp H
       obtain ⟨t18,A440,H⟩:=H
       replace H:(if a0_2<0 then ((narcissusref01_Number.f (wrap64 (-a0_2))).bind fun t19=>((narcissusref02_pair.f (⟨#[49,48,48]⟩:ByteArray) t19).bind fun t20=>((narcissusref02_pair.f t2 t20).bind fun t21=>((narcissusref01_Number.f a0_0).bind fun t22=>((narcissusref02_pair.f t22 t21).bind fun t23=>(some t23)))))) else ((narcissusref01_Number.f a0_0).bind fun t24=>((narcissusref02_pair.f t24 t18).bind fun t25=>(some t25))))=some r:=H
       have A44:=Aside0.mk A440
       clear A440;by_cases c45:a0_2<0
       ·rw [if_pos c45] at H
        have c45b0:decide (a0_2<0)=true:=decide_eq_true c45
        clear c45;replace H:=Option.bind_eq_some_iff.mp H
        obtain ⟨t19,A460,H⟩:=H
        replace H:((narcissusref02_pair.f (⟨#[49,48,48]⟩:ByteArray) t19).bind fun t20=>((narcissusref02_pair.f t2 t20).bind fun t21=>((narcissusref01_Number.f a0_0).bind fun t22=>((narcissusref02_pair.f t22 t21).bind fun t23=>(some t23)))))=some r:=H
        have A46:=Aside0.mk A460
        clear A460;replace H:=Option.bind_eq_some_iff.mp H
        obtain ⟨t20,A470,H⟩:=H
        replace H:((narcissusref02_pair.f t2 t20).bind fun t21=>((narcissusref01_Number.f a0_0).bind fun t22=>((narcissusref02_pair.f t22 t21).bind fun t23=>(some t23))))=some r:=H
        have A47:=Aside0.mk A470
        clear A470;replace H:=Option.bind_eq_some_iff.mp H
        obtain ⟨t21,A480,H⟩:=H
        replace H:((narcissusref01_Number.f a0_0).bind fun t22=>((narcissusref02_pair.f t22 t21).bind fun t23=>(some t23)))=some r:=H
        have A48:=Aside0.mk A480
        clear A480;replace H:=Option.bind_eq_some_iff.mp H
        obtain ⟨t22,A490,H⟩:=H
        replace H:((narcissusref02_pair.f t22 t21).bind fun t23=>(some t23))=some r:=H
        have A49:=Aside0.mk A490
        clear A490;replace H:=Option.bind_eq_some_iff.mp H
        obtain ⟨t23,A500,H⟩:=H
        replace H:(some t23)=some r:=H
        have A50:=Aside0.mk A500
        clear A500;obtain rfl:=Option.some.inj H
        have hcz51_0:wc.cell? ⟨gb1,0,none⟩=some (.int .i64 a0_0):=(blk_cell BK1.out 0).trans rfl
        have hcz51_1:wc.cell? ⟨gb1,1,none⟩=some (.int .i64 a0_1):=(blk_cell BK1.out 1).trans rfl
        have hcz51_2:wc.cell? ⟨gb1,2,none⟩=some (.int .i64 a0_2):=(blk_cell BK1.out 2).trans rfl
        have hcz51_3:wc.cell? ⟨gb1,3,none⟩=some (.int .i64 a0_3):=(blk_cell BK1.out 3).trans rfl
        have hcz51_4:wc.cell? ⟨gb1,4,none⟩=some (.string a0_4):=(blk_cell BK1.out 4).trans rfl
        have hfz51_0:=blk_frozen BK1.out 0
        have hfz51_1:=blk_frozen BK1.out 1
        have hfz51_2:=blk_frozen BK1.out 2
        have hfz51_3:=blk_frozen BK1.out 3
        have hfz51_4:=blk_frozen BK1.out 4
        go_wp2_with (first|((with_reducible refine gate_callee (f:=49) rfl ?_);refine goesL_ (some 42) rfl rfl Tryz.func49 (by kernel_rfl) rfl #[.int .i64 ji41] rfl (by (try simp only [List.map_toArray,List.map_cons,List.map_nil]);first|done|(simp only [hji41];rfl)|rfl|(simp only [List.length_drop,List.length_take];rfl)) ?_;(with_reducible refine (narcissusref01_Number.calls ji41 t16 _ A42.out).mono ?_);rintro e w52 ⟨rfl,hb⟩;refine ⟨_,rfl,?_⟩;have n0_:=Aside0.mk (blk_below (g:=gb1) (o:=.cells #[.int .i64 a0_0,.int .i64 a0_1,.int .i64 a0_2,.int .i64 a0_3,.string a0_4] 42 (0,0)) (by (with_reducible repeat (first|refine blk_drewN ?_ _|refine blk_drew ?_|refine blk_alloc ?_ _));exact BK1.out) hb);have n1_:=Aside0.mk (below_step (by repeat (first|(with_reducible first|exact HB.out|apply below_alloc|apply pw_below_drewN|apply below_drew1|refine below_set ?_ GE1.out)|exact HB.out)) hb);clear BK1;clear HB;have BK1:=n0_;have HB:=n1_;clear n0_ n1_;(try clear hb);(try clear hb2);(try clear hk);(try clear hi))|((with_reducible refine gate_callee (f:=50) rfl ?_);refine goesL_ (some 43) rfl rfl Tryz.func50 (by kernel_rfl) rfl #[.string (⟨#[48]⟩:ByteArray),.string t16] rfl (by (try simp only [List.map_toArray,List.map_cons,List.map_nil]);first|done|rfl) ?_;(with_reducible refine (narcissusref02_pair.calls (⟨#[48]⟩:ByteArray) t16 t17 _ A43.out).mono ?_);rintro e w' ⟨rfl,⟨nd,rfl⟩⟩;refine ⟨_,rfl,?_⟩)|((with_reducible refine gate_callee (f:=50) rfl ?_);refine goesL_ (some 44) rfl rfl Tryz.func50 (by kernel_rfl) rfl #[.string t2,.string t17] rfl (by (try simp only [List.map_toArray,List.map_cons,List.map_nil]);first|done|rfl) ?_;(with_reducible refine (narcissusref02_pair.calls t2 t17 t18 _ A44.out).mono ?_);rintro e w' ⟨rfl,⟨nd,rfl⟩⟩;refine ⟨_,rfl,?_⟩;have hcz53_0:w52.cell? ⟨gb1,0,none⟩=some (.int .i64 a0_0):=(blk_cell BK1.out 0).trans rfl;have hcz53_1:w52.cell? ⟨gb1,1,none⟩=some (.int .i64 a0_1):=(blk_cell BK1.out 1).trans rfl;have hcz53_2:w52.cell? ⟨gb1,2,none⟩=some (.int .i64 a0_2):=(blk_cell BK1.out 2).trans rfl;have hcz53_3:w52.cell? ⟨gb1,3,none⟩=some (.int .i64 a0_3):=(blk_cell BK1.out 3).trans rfl;have hcz53_4:w52.cell? ⟨gb1,4,none⟩=some (.string a0_4):=(blk_cell BK1.out 4).trans rfl;have hfz53_0:=blk_frozen BK1.out 0;have hfz53_1:=blk_frozen BK1.out 1;have hfz53_2:=blk_frozen BK1.out 2;have hfz53_3:=blk_frozen BK1.out 3;have hfz53_4:=blk_frozen BK1.out 4)|((with_reducible refine gate_callee (f:=49) rfl ?_);refine goesL_ (some 52) rfl rfl Tryz.func49 (by kernel_rfl) rfl #[.int .i64 (wrap64 (-a0_2))] rfl (by (try simp only [List.map_toArray,List.map_cons,List.map_nil]);first|done|rfl) ?_;(with_reducible refine (narcissusref01_Number.calls (wrap64 (-a0_2)) t19 _ A46.out).mono ?_);rintro e w54 ⟨rfl,hb⟩;refine ⟨_,rfl,?_⟩;have n0_:=Aside0.mk (blk_below (g:=gb1) (o:=.cells #[.int .i64 a0_0,.int .i64 a0_1,.int .i64 a0_2,.int .i64 a0_3,.string a0_4] 42 (0,0)) (by (with_reducible repeat (first|refine blk_drewN ?_ _|refine blk_drew ?_|refine blk_alloc ?_ _));exact BK1.out) hb);have n1_:=Aside0.mk (below_step (by repeat (first|(with_reducible first|exact HB.out|apply below_alloc|apply pw_below_drewN|apply below_drew1|refine below_set ?_ GE1.out)|exact HB.out)) hb);clear BK1;clear HB;have BK1:=n0_;have HB:=n1_;clear n0_ n1_;(try clear hb);(try clear hb2);(try clear hk);(try clear hi))|((with_reducible refine gate_callee (f:=50) rfl ?_);refine goesL_ (some 53) rfl rfl Tryz.func50 (by kernel_rfl) rfl #[.string (⟨#[49,48,48]⟩:ByteArray),.string t19] rfl (by (try simp only [List.map_toArray,List.map_cons,List.map_nil]);first|done|rfl) ?_;(with_reducible refine (narcissusref02_pair.calls (⟨#[49,48,48]⟩:ByteArray) t19 t20 _ A47.out).mono ?_);rintro e w' ⟨rfl,⟨nd,rfl⟩⟩;refine ⟨_,rfl,?_⟩)|((with_reducible refine gate_callee (f:=50) rfl ?_);refine goesL_ (some 54) rfl rfl Tryz.func50 (by kernel_rfl) rfl #[.string t2,.string t20] rfl (by (try simp only [List.map_toArray,List.map_cons,List.map_nil]);first|done|rfl) ?_;(with_reducible refine (narcissusref02_pair.calls t2 t20 t21 _ A48.out).mono ?_);rintro e w' ⟨rfl,⟨nd,rfl⟩⟩;refine ⟨_,rfl,?_⟩;have hcz55_0:w54.cell? ⟨gb1,0,none⟩=some (.int .i64 a0_0):=(blk_cell BK1.out 0).trans rfl;have hcz55_1:w54.cell? ⟨gb1,1,none⟩=some (.int .i64 a0_1):=(blk_cell BK1.out 1).trans rfl;have hcz55_2:w54.cell? ⟨gb1,2,none⟩=some (.int .i64 a0_2):=(blk_cell BK1.out 2).trans rfl;have hcz55_3:w54.cell? ⟨gb1,3,none⟩=some (.int .i64 a0_3):=(blk_cell BK1.out 3).trans rfl;have hcz55_4:w54.cell? ⟨gb1,4,none⟩=some (.string a0_4):=(blk_cell BK1.out 4).trans rfl;have hfz55_0:=blk_frozen BK1.out 0;have hfz55_1:=blk_frozen BK1.out 1;have hfz55_2:=blk_frozen BK1.out 2;have hfz55_3:=blk_frozen BK1.out 3;have hfz55_4:=blk_frozen BK1.out 4)|((with_reducible refine gate_callee (f:=49) rfl ?_);refine goesL_ (some 57) rfl rfl Tryz.func49 (by kernel_rfl) rfl #[.int .i64 a0_0] rfl (by (try simp only [List.map_toArray,List.map_cons,List.map_nil]);first|done|rfl) ?_;(with_reducible refine (narcissusref01_Number.calls a0_0 t22 _ A49.out).mono ?_);rintro e w56 ⟨rfl,hb⟩;refine ⟨_,rfl,?_⟩;have n0_:=Aside0.mk (blk_below (g:=gb1) (o:=.cells #[.int .i64 a0_0,.int .i64 a0_1,.int .i64 a0_2,.int .i64 a0_3,.string a0_4] 42 (0,0)) (by (with_reducible repeat (first|refine blk_drewN ?_ _|refine blk_drew ?_|refine blk_alloc ?_ _));exact BK1.out) hb);have n1_:=Aside0.mk (below_step (by repeat (first|(with_reducible first|exact HB.out|apply below_alloc|apply pw_below_drewN|apply below_drew1|refine below_set ?_ GE1.out)|exact HB.out)) hb);clear BK1;clear HB;have BK1:=n0_;have HB:=n1_;clear n0_ n1_;(try clear hb);(try clear hb2);(try clear hk);(try clear hi))|((with_reducible refine gate_callee (f:=50) rfl ?_);refine goesL_ (some 59) rfl rfl Tryz.func50 (by kernel_rfl) rfl #[.string t22,.string t21] rfl (by (try simp only [List.map_toArray,List.map_cons,List.map_nil]);first|done|rfl) ?_;(with_reducible refine (narcissusref02_pair.calls t22 t21 t23 _ A50.out).mono ?_);rintro e w' ⟨rfl,⟨nd,rfl⟩⟩;refine ⟨_,rfl,?_⟩))
        go_ret
        exact ⟨by first|rfl|(simp [errW_none,errW_some]<;>rfl)|(simp only [← hji41];first|rfl|(simp [errW_none,errW_some]<;>rfl))|(simp [*,errW_none,errW_some]<;>rfl),by repeat (first|(with_reducible first|exact HB.out|apply below_alloc|apply pw_below_drewN|apply below_drew1|refine below_set ?_ GE1.out)|exact HB.out)⟩
       ·rw [if_neg c45] at H
        have c45b0:decide (a0_2<0)=false:=decide_eq_false c45
        clear c45;replace H:=Option.bind_eq_some_iff.mp H
        obtain ⟨t24,A570,H⟩:=H
        replace H:((narcissusref02_pair.f t24 t18).bind fun t25=>(some t25))=some r:=H
        have A57:=Aside0.mk A570
        clear A570;replace H:=Option.bind_eq_some_iff.mp H
        obtain ⟨t25,A580,H⟩:=H
        replace H:(some t25)=some r:=H
        have A58:=Aside0.mk A580
        clear A580;obtain rfl:=Option.some.inj H
        have hcz59_0:wc.cell? ⟨gb1,0,none⟩=some (.int .i64 a0_0):=(blk_cell BK1.out 0).trans rfl
        have hcz59_1:wc.cell? ⟨gb1,1,none⟩=some (.int .i64 a0_1):=(blk_cell BK1.out 1).trans rfl
        have hcz59_2:wc.cell? ⟨gb1,2,none⟩=some (.int .i64 a0_2):=(blk_cell BK1.out 2).trans rfl
        have hcz59_3:wc.cell? ⟨gb1,3,none⟩=some (.int .i64 a0_3):=(blk_cell BK1.out 3).trans rfl
        have hcz59_4:wc.cell? ⟨gb1,4,none⟩=some (.string a0_4):=(blk_cell BK1.out 4).trans rfl
        have hfz59_0:=blk_frozen BK1.out 0
        have hfz59_1:=blk_frozen BK1.out 1
        have hfz59_2:=blk_frozen BK1.out 2
        have hfz59_3:=blk_frozen BK1.out 3
        have hfz59_4:=blk_frozen BK1.out 4
        go_wp2_with (first|((with_reducible refine gate_callee (f:=49) rfl ?_);refine goesL_ (some 42) rfl rfl Tryz.func49 (by kernel_rfl) rfl #[.int .i64 ji41] rfl (by (try simp only [List.map_toArray,List.map_cons,List.map_nil]);first|done|(simp only [hji41];rfl)|rfl|(simp only [List.length_drop,List.length_take];rfl)) ?_;(with_reducible refine (narcissusref01_Number.calls ji41 t16 _ A42.out).mono ?_);rintro e w60 ⟨rfl,hb⟩;refine ⟨_,rfl,?_⟩;have n0_:=Aside0.mk (blk_below (g:=gb1) (o:=.cells #[.int .i64 a0_0,.int .i64 a0_1,.int .i64 a0_2,.int .i64 a0_3,.string a0_4] 42 (0,0)) (by (with_reducible repeat (first|refine blk_drewN ?_ _|refine blk_drew ?_|refine blk_alloc ?_ _));exact BK1.out) hb);have n1_:=Aside0.mk (below_step (by repeat (first|(with_reducible first|exact HB.out|apply below_alloc|apply pw_below_drewN|apply below_drew1|refine below_set ?_ GE1.out)|exact HB.out)) hb);clear BK1;clear HB;have BK1:=n0_;have HB:=n1_;clear n0_ n1_;(try clear hb);(try clear hb2);(try clear hk);(try clear hi))|((with_reducible refine gate_callee (f:=50) rfl ?_);refine goesL_ (some 43) rfl rfl Tryz.func50 (by kernel_rfl) rfl #[.string (⟨#[48]⟩:ByteArray),.string t16] rfl (by (try simp only [List.map_toArray,List.map_cons,List.map_nil]);first|done|rfl) ?_;(with_reducible refine (narcissusref02_pair.calls (⟨#[48]⟩:ByteArray) t16 t17 _ A43.out).mono ?_);rintro e w' ⟨rfl,⟨nd,rfl⟩⟩;refine ⟨_,rfl,?_⟩)|((with_reducible refine gate_callee (f:=50) rfl ?_);refine goesL_ (some 44) rfl rfl Tryz.func50 (by kernel_rfl) rfl #[.string t2,.string t17] rfl (by (try simp only [List.map_toArray,List.map_cons,List.map_nil]);first|done|rfl) ?_;(with_reducible refine (narcissusref02_pair.calls t2 t17 t18 _ A44.out).mono ?_);rintro e w' ⟨rfl,⟨nd,rfl⟩⟩;refine ⟨_,rfl,?_⟩;have hcz61_0:w60.cell? ⟨gb1,0,none⟩=some (.int .i64 a0_0):=(blk_cell BK1.out 0).trans rfl;have hcz61_1:w60.cell? ⟨gb1,1,none⟩=some (.int .i64 a0_1):=(blk_cell BK1.out 1).trans rfl;have hcz61_2:w60.cell? ⟨gb1,2,none⟩=some (.int .i64 a0_2):=(blk_cell BK1.out 2).trans rfl;have hcz61_3:w60.cell? ⟨gb1,3,none⟩=some (.int .i64 a0_3):=(blk_cell BK1.out 3).trans rfl;have hcz61_4:w60.cell? ⟨gb1,4,none⟩=some (.string a0_4):=(blk_cell BK1.out 4).trans rfl;have hfz61_0:=blk_frozen BK1.out 0;have hfz61_1:=blk_frozen BK1.out 1;have hfz61_2:=blk_frozen BK1.out 2;have hfz61_3:=blk_frozen BK1.out 3;have hfz61_4:=blk_frozen BK1.out 4)|((with_reducible refine gate_callee (f:=49) rfl ?_);refine goesL_ (some 57) rfl rfl Tryz.func49 (by kernel_rfl) rfl #[.int .i64 a0_0] rfl (by (try simp only [List.map_toArray,List.map_cons,List.map_nil]);first|done|rfl) ?_;(with_reducible refine (narcissusref01_Number.calls a0_0 t24 _ A57.out).mono ?_);rintro e w62 ⟨rfl,hb⟩;refine ⟨_,rfl,?_⟩;have n0_:=Aside0.mk (blk_below (g:=gb1) (o:=.cells #[.int .i64 a0_0,.int .i64 a0_1,.int .i64 a0_2,.int .i64 a0_3,.string a0_4] 42 (0,0)) (by (with_reducible repeat (first|refine blk_drewN ?_ _|refine blk_drew ?_|refine blk_alloc ?_ _));exact BK1.out) hb);have n1_:=Aside0.mk (below_step (by repeat (first|(with_reducible first|exact HB.out|apply below_alloc|apply pw_below_drewN|apply below_drew1|refine below_set ?_ GE1.out)|exact HB.out)) hb);clear BK1;clear HB;have BK1:=n0_;have HB:=n1_;clear n0_ n1_;(try clear hb);(try clear hb2);(try clear hk);(try clear hi))|((with_reducible refine gate_callee (f:=50) rfl ?_);refine goesL_ (some 59) rfl rfl Tryz.func50 (by kernel_rfl) rfl #[.string t24,.string t18] rfl (by (try simp only [List.map_toArray,List.map_cons,List.map_nil]);first|done|rfl) ?_;(with_reducible refine (narcissusref02_pair.calls t24 t18 t25 _ A58.out).mono ?_);rintro e w' ⟨rfl,⟨nd,rfl⟩⟩;refine ⟨_,rfl,?_⟩))
        go_ret
        exact ⟨by first|rfl|(simp [errW_none,errW_some]<;>rfl)|(simp only [← hji41];first|rfl|(simp [errW_none,errW_some]<;>rfl))|(simp [*,errW_none,errW_some]<;>rfl),by repeat (first|(with_reducible first|exact HB.out|apply below_alloc|apply pw_below_drewN|apply below_drew1|refine below_set ?_ GE1.out)|exact HB.out)⟩
      ·rw [if_neg c40] at H
       have c40b0:(a0_0 == 5)=false:=beq_eq_false_iff_ne.mpr c40
       have c40b1:(a0_0 != 5)=true:=bne_iff_ne.mpr c40
       replace H:=Option.bind_eq_some_iff.mp H
       obtain ⟨t26,A630,H⟩:=H
       replace H:((narcissusref02_pair.f t26 (⟨#[]⟩:ByteArray)).bind fun t27=>(some t27))=some r:=H
       have A63:=Aside0.mk A630
       clear A630;replace H:=Option.bind_eq_some_iff.mp H
       obtain ⟨t27,A640,H⟩:=H
       replace H:(some t27)=some r:=H
       have A64:=Aside0.mk A640
       clear A640;obtain rfl:=Option.some.inj H
       have hcz65_0:wc.cell? ⟨gb1,0,none⟩=some (.int .i64 a0_0):=(blk_cell BK1.out 0).trans rfl
       have hcz65_1:wc.cell? ⟨gb1,1,none⟩=some (.int .i64 a0_1):=(blk_cell BK1.out 1).trans rfl
       have hcz65_2:wc.cell? ⟨gb1,2,none⟩=some (.int .i64 a0_2):=(blk_cell BK1.out 2).trans rfl
       have hcz65_3:wc.cell? ⟨gb1,3,none⟩=some (.int .i64 a0_3):=(blk_cell BK1.out 3).trans rfl
       have hcz65_4:wc.cell? ⟨gb1,4,none⟩=some (.string a0_4):=(blk_cell BK1.out 4).trans rfl
       have hfz65_0:=blk_frozen BK1.out 0
       have hfz65_1:=blk_frozen BK1.out 1
       have hfz65_2:=blk_frozen BK1.out 2
       have hfz65_3:=blk_frozen BK1.out 3
       have hfz65_4:=blk_frozen BK1.out 4
       go_wp2_with (first|((with_reducible refine gate_callee (f:=49) rfl ?_);refine goesL_ (some 57) rfl rfl Tryz.func49 (by kernel_rfl) rfl #[.int .i64 a0_0] rfl (by (try simp only [List.map_toArray,List.map_cons,List.map_nil]);first|done|rfl) ?_;(with_reducible refine (narcissusref01_Number.calls a0_0 t26 _ A63.out).mono ?_);rintro e w66 ⟨rfl,hb⟩;refine ⟨_,rfl,?_⟩;have n0_:=Aside0.mk (blk_below (g:=gb1) (o:=.cells #[.int .i64 a0_0,.int .i64 a0_1,.int .i64 a0_2,.int .i64 a0_3,.string a0_4] 42 (0,0)) (by (with_reducible repeat (first|refine blk_drewN ?_ _|refine blk_drew ?_|refine blk_alloc ?_ _));exact BK1.out) hb);have n1_:=Aside0.mk (below_step (by repeat (first|(with_reducible first|exact HB.out|apply below_alloc|apply pw_below_drewN|apply below_drew1|refine below_set ?_ GE1.out)|exact HB.out)) hb);clear BK1;clear HB;have BK1:=n0_;have HB:=n1_;clear n0_ n1_;(try clear hb);(try clear hb2);(try clear hk);(try clear hi))|((with_reducible refine gate_callee (f:=50) rfl ?_);refine goesL_ (some 59) rfl rfl Tryz.func50 (by kernel_rfl) rfl #[.string t26,.string (⟨#[]⟩:ByteArray)] rfl (by (try simp only [List.map_toArray,List.map_cons,List.map_nil]);first|done|rfl) ?_;(with_reducible refine (narcissusref02_pair.calls t26 (⟨#[]⟩:ByteArray) t27 _ A64.out).mono ?_);rintro e w' ⟨rfl,⟨nd,rfl⟩⟩;refine ⟨_,rfl,?_⟩))
       go_ret
       exact ⟨by first|rfl|(simp [errW_none,errW_some]<;>rfl)|(simp [*,errW_none,errW_some]<;>rfl),by repeat (first|(with_reducible first|exact HB.out|apply below_alloc|apply pw_below_drewN|apply below_drew1|refine below_set ?_ GE1.out)|exact HB.out)⟩
end
section
attribute [local go_sem] max2_int min2_int max_two min_two max_three min_three max_four min_four
def narcissusref02_Code.l0:Nat→List (S42)→List ByteArray→Int→Option (ByteArray)
 | 0,_,_,_=>none
 | k+1,x0,x3,x4=>if x4<(x0.length:Int) then (if 0≤x4 then ((narcissusref02_CodeOf.f k ((rd_T42 x0 x4).f0) ((rd_T42 x0 x4).f1) ((rd_T42 x0 x4).f2) ((rd_T42 x0 x4).f3) ((rd_T42 x0 x4).f4)).bind fun t2=>(if x3.length<8796093022208 then (narcissusref02_Code.l0 k x0 (x3 ++ [t2]) (wrap64 (x4+1))) else (none))) else (none)) else ((narcissusref01_List.f k x3).bind fun t6=>(some t6))
def narcissusref02_Code.f (k:Nat) (l0:List (S42)):Option (ByteArray):=narcissusref02_Code.l0 k l0 ([]:List ByteArray) 0
theorem narcissusref02_Code.mono_l : ∀ k,(∀ y0 y1 y2,LeO (narcissusref02_Code.l0 k y0 y1 y2) (narcissusref02_Code.l0 (k+1) y0 y1 y2))
 | 0=>fun _ _ _ r h=>by simp [narcissusref02_Code.l0] at h
 | k+1=>by
  have ih0:=narcissusref02_Code.mono_l k
  ·intro y0 y1 y2
   unfold narcissusref02_Code.l0
   repeat' first
   | (with_reducible exact ih0 _ _ _)
   | (with_reducible exact narcissusref01_List.mono _ _)
   | (with_reducible exact narcissusref02_CodeOf.mono _ _ _ _ _ _)
   | (with_reducible exact LeO.refl _)
   | (with_reducible exact LeO.none _)
   | (with_reducible refine LeO.ite ?_ ?_)
   | (with_reducible refine LeO.bind ?_ (fun _=>?_))
   | exact ih0 _ _ _
   | exact narcissusref01_List.mono _ _
   | exact narcissusref02_CodeOf.mono _ _ _ _ _ _
   | exact LeO.none _
   | refine LeO.ite ?_ ?_
   | refine LeO.bind ?_ (fun _=>?_)
theorem narcissusref02_Code.mono : ∀ a0 k,LeO (narcissusref02_Code.f k a0) (narcissusref02_Code.f (k+1) a0):=by
 intro a0 k
 have ih0:=narcissusref02_Code.mono_l k
 unfold narcissusref02_Code.f
 repeat' first
   | (with_reducible exact ih0 _ _ _)
   | (with_reducible exact narcissusref01_List.mono _ _)
   | (with_reducible exact narcissusref02_CodeOf.mono _ _ _ _ _ _)
   | (with_reducible exact LeO.refl _)
   | (with_reducible exact LeO.none _)
   | (with_reducible refine LeO.ite ?_ ?_)
   | (with_reducible refine LeO.bind ?_ (fun _=>?_))
   | exact ih0 _ _ _
   | exact narcissusref01_List.mono _ _
   | exact narcissusref02_CodeOf.mono _ _ _ _ _ _
   | exact LeO.none _
   | refine LeO.ite ?_ ?_
   | refine LeO.bind ?_ (fun _=>?_)
set_option maxHeartbeats 8000000 in
set_option maxRecDepth 100000 in
theorem narcissusref02_Code.calls (k:Nat) (A0:Option Addr) (c0:Nat) (l0:List (S42)) (r:ByteArray) (w:World) (hr0:Kd.C k42 w A0 l0.length l0) (hc0:l0.length≤c0) (h:narcissusref02_Code.f k l0=some r) :
  Calls Tryz.prog 24 #[.slice A0 l0.length c0] w fun e w'=>e = .returned (.string r)∧Below w.heap.size w w':=by
 have hu42:=Tryz.underlying42
 have HR0:=Aside0.mk hr0
 have HC0:=Aside0.mk hc0
 clear hr0 hc0;have HB:=Aside0.mk (Below.refl w.heap.size w)
 have H:(narcissusref02_Code.l0 k l0 ([]:List ByteArray) 0)=some r:=h
 clear h;have H':=Aside0.mk H
 clear H;go_enter Tryz.func24,Tryz.ntmps24
 go_wp2
 go_loopg [3,4] k (fun kq v3 v4 w' => ∃ (x3_1:List ByteArray) (x4_1:Int),v4 = .int .i64 x4_1∧Aside0 (narcissusref02_Code.l0 kq l0 x3_1 x4_1=some r)∧Aside0 (kq≤k)∧Aside0 (Kd.R Kd.string 9 w' w.heap.size (fun _=>True) v3 x3_1)∧Aside0 (Below w.heap.size w w'))
 case atStart=>exact ⟨(([]:List ByteArray)),(0),(by first|rfl|(simp;done)|(simp [*];done)),H',⟨Nat.le_refl _⟩,⟨by first|exact Kd.R_nil _ _ _ _ _|exact Kd.N_nil _ _ _ _ _|exact Kd.V_nil _ _ _ _ _|exact Kd.Q_nil _ _ _ _ _|exact Kd.S_nil _ _ _ _ _⟩,⟨by repeat (first|(with_reducible first|exact HB.out|apply below_alloc|apply pw_below_drewN|apply below_drew1)|exact HB.out)⟩⟩
 case round =>
  clear H';obtain ⟨x3_1,x4_1,rfl,HA,HK1,HO_3,HB⟩:=hrel
  cases gk with
  | zero=>exact absurd HA.out (by simp [narcissusref02_Code.l0])
  | succ k1 =>
   have H:=HA.out
   clear HA;simp only [narcissusref02_Code.l0] at H
   by_cases c2:x4_1<(l0.length:Int)
   ·rw [if_pos c2] at H
    have c2b0:decide (x4_1<(l0.length:Int))=true:=decide_eq_true c2
    clear c2;by_cases c3:0≤x4_1
    ·rw [if_pos c3] at H
     have c3b0:decide (0≤x4_1)=true:=decide_eq_true c3
     clear c3;replace H:=Option.bind_eq_some_iff.mp H
     obtain ⟨t2,A40,H⟩:=H
     replace H:(if x3_1.length<8796093022208 then (narcissusref02_Code.l0 k1 l0 (x3_1 ++ [t2]) (wrap64 (x4_1+1))) else (none))=some r:=H
     have A4:=Aside0.mk A40
     clear A40;by_cases c5:x3_1.length<8796093022208
     ·rw [if_pos c5] at H
      have LMc5:=Aside0.mk c5
      clear c5;obtain ⟨y3,hy3⟩ : ∃ y_:List ByteArray,y_=(x3_1 ++ [t2]):=⟨_,rfl⟩
      replace H:(narcissusref02_Code.l0 k1 l0 y3 (wrap64 (x4_1+1)))=some r:=by first|(rw [hy3];with_reducible exact H)|(have H2_:=(Option.bind_some _ _).symm.trans H;rw [hy3];with_reducible exact H2_)|(have H2_:=(Option.bind_some _ _).symm.trans H;with_reducible exact H2_)|with_reducible exact H|(rw [hy3];exact H)|exact H
      have Ny3:=Aside0.mk hy3
      clear hy3;have H':=Aside0.mk H
      clear H;have p1:0≤(x4_1:Int):=of_decide_eq_true (by first|(with_reducible assumption)|assumption)
      have q1:x4_1<(l0.length:Int):=of_decide_eq_true (by first|(with_reducible assumption)|assumption)
      obtain ⟨ad1,e1,hx1_0,hx1_1,hx1_2,hx1_3,hx1_4⟩:=at_T42 HR0.out x4_1 p1 q1
      cases e1
      replace hx1_0:=(HB.out.cell (World.block_lt_of_cell? w _ hx1_0)).trans hx1_0
      replace hx1_1:=(HB.out.cell (World.block_lt_of_cell? w _ hx1_1)).trans hx1_1
      replace hx1_2:=(HB.out.cell (World.block_lt_of_cell? w _ hx1_2)).trans hx1_2
      replace hx1_3:=(HB.out.cell (World.block_lt_of_cell? w _ hx1_3)).trans hx1_3
      replace hx1_4:=(HB.out.cell (World.block_lt_of_cell? w _ hx1_4)).trans hx1_4
      replace p1:=eq_true p1;replace q1:=eq_true q1;go_wp2_with (first|((with_reducible refine gate_callee (f:=20) rfl ?_);refine goesL_ (some 16) rfl rfl Tryz.func20 (by kernel_rfl) rfl #[.agg #[.int .i64 ((rd_T42 l0 x4_1).f0),.int .i64 ((rd_T42 l0 x4_1).f1),.int .i64 ((rd_T42 l0 x4_1).f2),.int .i64 ((rd_T42 l0 x4_1).f3),.string ((rd_T42 l0 x4_1).f4)]] rfl (by (try simp only [List.map_toArray,List.map_cons,List.map_nil]);first|done|rfl) ?_;(with_reducible refine (narcissusref02_CodeOf.calls k1 ((rd_T42 l0 x4_1).f0) ((rd_T42 l0 x4_1).f1) ((rd_T42 l0 x4_1).f2) ((rd_T42 l0 x4_1).f3) ((rd_T42 l0 x4_1).f4) t2 _ A4.out).mono ?_);rintro e w6 ⟨rfl,hb⟩;refine ⟨_,rfl,?_⟩;have n0_:=Aside0.mk (Kd.R_below (by (with_reducible repeat (first|apply Kd.R_alloc|apply Kd.R_drewN|apply Kd.R_drew));exact HO_3.out) hb);have n1_:=Aside0.mk (below_step (by repeat (first|(with_reducible first|exact HB.out|apply below_alloc|apply pw_below_drewN|apply below_drew1)|exact HB.out)) hb);clear HO_3;clear HB;have HO_3:=n0_;have HB:=n1_;clear n0_ n1_;(try clear hb);(try clear hb2);(try clear hk);(try clear hi))|((with_reducible refine gate_builtin (b:=.append) (xs:=#[.tmp 11,.tmp 17]) rfl ?_);at_builtin;refine Kd.R_append Kd.string (w0:=w) w.heap.size rfl (.tmp 11) (.tmp 17) 36 9 (.string ⟨#[]⟩) 16 rfl Tryz.underlying36 info9 rfl (by decide) (by omega) u3 x3_1 t2 [.string t2] (fun _=>True) (fun _=>False) rfl rfl ?aP (fun _ hk=>hk.elim) ?aF ?aO ?aB ?aS ?aL ?_;(case aP=>exact rfl);(case aB=>exact (by repeat (first|(with_reducible first|exact HB.out|apply below_alloc|apply pw_below_drewN|apply below_drew1)|exact HB.out)));(case aF=>exact (fun _ _=>trivial));(case aO=>exact (by (with_reducible repeat (first|apply Kd.R_alloc|apply Kd.R_drewN|apply Kd.R_drew));exact HO_3.out));(case aS=>exact (below_size (by repeat (first|(with_reducible first|exact HB.out|apply below_alloc|apply pw_below_drewN|apply below_drew1)|exact HB.out))));(case aL=>have:=LMc5.out;first|omega|(simp only [lit_size,List.size_toArray,List.length_cons,List.length_nil];omega));intro v4 w7 ho hb hg hat;rw [← Ny3.out] at ho;have n0_:=Aside0.mk (hb);have n1_:=Aside0.mk (ho);clear HB;clear HO_3;have HB:=n0_;have HO5:=n1_;clear n0_ n1_;clear ho hb hg hat))
      go_roundg k1
      case measure=>have:=HK1.out;omega
      case rel=>exact ⟨(y3),(wrap64 (x4_1+1)),(by first|rfl|(simp;done)|(simp [*];done)),H',⟨by have:=HK1.out;omega⟩,⟨by (with_reducible repeat (first|apply Kd.R_alloc|apply Kd.R_drewN|apply Kd.R_drew));exact HO5.out⟩,⟨by repeat (first|(with_reducible first|exact HB.out|apply below_alloc|apply pw_below_drewN|apply below_drew1)|exact HB.out)⟩⟩
     ·rw [if_neg c5] at H
      exact absurd H (by simp)
    ·rw [if_neg c3] at H
     exact absurd H (by simp)
   ·rw [if_neg c2] at H
    have c2b0:decide (x4_1<(l0.length:Int))=false:=decide_eq_false c2
    clear c2;replace H:=Option.bind_eq_some_iff.mp H
    obtain ⟨t6,A80,H⟩:=H
    replace H:(some t6)=some r:=H
    have A8:=Aside0.mk A80
    clear A80;obtain rfl:=Option.some.inj H
    obtain ⟨Ao9,co9,eo9⟩:=Kd.R_slice HO_3.out
    subst eo9;go_wp2_with (first|((with_reducible refine gate_callee (f:=54) rfl ?_);refine goesL_ (some 20) rfl rfl Tryz.func54 (by kernel_rfl) rfl #[.slice Ao9 x3_1.length co9] rfl (by (try simp only [List.map_toArray,List.map_cons,List.map_nil]);first|done|rfl|(simp only [List.length_drop,List.length_take];rfl)) ?_;(with_reducible refine (narcissusref01_List.calls k1 _ _ x3_1 t6 _ ?side1 ?side2 A8.out).mono ?_);(case side1=>repeat (first|exact (Kd.R_reads' HO_3.out).2.2|(with_reducible refine Kd.C_alloc ?_ _)|(with_reducible refine Kd.C_drewN ?_ _)|(with_reducible refine Kd.C_drew ?_)));(case side2=>exact (Kd.R_reads' HO_3.out).2.1);rintro e w10 ⟨rfl,hb⟩;refine ⟨_,rfl,?_⟩;have n0_:=Aside0.mk (Kd.R_below (by (with_reducible repeat (first|apply Kd.R_alloc|apply Kd.R_drewN|apply Kd.R_drew));exact HO_3.out) hb);have n1_:=Aside0.mk (below_step (by repeat (first|(with_reducible first|exact HB.out|apply below_alloc|apply pw_below_drewN|apply below_drew1)|exact HB.out)) hb);clear HO_3;clear HB;have HO_3:=n0_;have HB:=n1_;clear n0_ n1_;(try clear hb);(try clear hb2);(try clear hk);(try clear hi)))
    go_ret
    exact ⟨by first|rfl|(simp [errW_none,errW_some]<;>rfl)|(simp [*,errW_none,errW_some]<;>rfl),by repeat (first|(with_reducible first|exact HB.out|apply below_alloc|apply pw_below_drewN|apply below_drew1)|exact HB.out)⟩
end
end Go.Proofs.YtfckjfoalpkpjaaGreatDoor.C
section
namespace Go.Proofs.YtfckjfoalpkpjaaGreatDoor.Plain
open Go.Proofs.YtfckjfoalpkpjaaGreatDoor.C
open Go.RowKit Go.Proofs.YtfckjfoalpkpjaaGreatDoorW.PrintWords Go.Proofs.YtfckjfoalpkpjaaGreatDoorW.PrintLast Go.Proofs.YtfckjfoalpkpjaaGreatDoorW.PrintMore
theorem bl_nums (l:List Int):bl (strOfNums l)=l.map fun n=>UInt8.ofNat n.toNat:=strOfNums_data l
theorem nums_bytes (s:ByteArray):(bytesOf s).map (fun n=>UInt8.ofNat n.toNat)=bl s:=by
  unfold bytesOf
  rw [List.map_map]
  conv=>rhs;rw [← List.map_id (bl s)]
  refine List.map_congr_left fun c _=>?_
  show UInt8.ofNat ((c.toNat:Int)).toNat=c
  rw [Int.toNat_natCast,UInt8.ofNat_toNat]
end Go.Proofs.YtfckjfoalpkpjaaGreatDoor.Plain
end
section
namespace Go.Proofs.YtfckjfoalpkpjaaGreatDoor.Plain
open Go.Proofs.YtfckjfoalpkpjaaGreatDoor.C
open Go.RowKit Go.Proofs.YtfckjfoalpkpjaaGreatDoorW.PrintWords Go.Proofs.YtfckjfoalpkpjaaGreatDoorW.PrintLast Go.Proofs.YtfckjfoalpkpjaaGreatDoorW.PrintMore
theorem itoa_tells (n:Int) (h:In64 n):strconv_Itoa.f n=some (bs (Lib.itoa n))∧(Lib.itoa n).length≤21:=by
  unfold strconv_Itoa.f
  rw [if_pos ⟨h.1,h.2⟩]
  exact ⟨rfl,Lib.itoa_length_le n h.1 h.2⟩
theorem lit32:(⟨#[32]⟩:ByteArray)=bs [32]:=rfl
theorem bs_bl' (s:ByteArray):s=bs (bl s):=(bs_bl s).symm
def headL (x:Ins):List UInt8:=nameOf x.f0 ++ [32] ++ Lib.itoa x.f1
def tailL (x:Ins):List UInt8:=if x.f0=0 then [32] ++ bl x.f4 else if x.f0=2 then [32] ++ Lib.itoa x.f2 ++ [32] ++ Lib.itoa x.f3 else [32] ++ Lib.itoa x.f2
theorem textOf_parts (x:Ins):textOf x=headL x ++ tailL x:=by
  unfold textOf headL tailL
  by_cases h0:x.f0=0
  · rw [words_set h0,if_pos h0,h0];simp [joinS]
  by_cases h2:x.f0=2
  · rw [words_cons h2,if_neg h0,if_pos h2,h2];simp [joinS]
  · rw [words_two h0 h2,if_neg h0,if_neg h2];simp [joinS]
theorem op_word:opNames=wordNames:=rfl
theorem head_tells {x:Ins} (h:TNice x):textHead x=some (bs (headL x))∧(headL x).length≤26:=by
  have hop:=op_range h
  obtain ⟨e,hl⟩:=itoa_tells x.f1 h.1
  have hn:=(name_no x.f0 hop.1 hop.2).2.2
  unfold textHead
  rw [op_word,if_pos hop,e,Option.bind_some,bs_size,if_pos (by omega),lit32,bs_bl' (rdOf ByteArray.empty wordNames x.f0),bs_append,bs_append]
  refine ⟨rfl,?_⟩
  unfold headL
  rw [List.length_append,List.length_append,List.length_singleton]
  omega
theorem tail_tells {x:Ins} (h:TNice x) (hz:x.f4.size≤2000000):textTail x=some (bs (tailL x))∧(tailL x).length≤100+x.f4.size:=by
  unfold textTail tailL
  obtain ⟨_,h⟩:=h
  by_cases h0:x.f0=0
  · rw [if_pos h0,if_pos h0,if_pos (by omega),lit32,bs_bl' x.f4,bs_append]
    refine ⟨by rw [bl_bs],?_⟩
    rw [bl_bs,List.length_append,bl_len,List.length_singleton,bs_bl]
    omega
  rw [if_neg h0,if_neg h0]
  by_cases h2:x.f0=2
  · rcases h with h|⟨_,hb,hc,_⟩|h
    · omega
    · obtain ⟨eb,lb⟩:=itoa_tells x.f2 hb
      obtain ⟨ec,lc⟩:=itoa_tells x.f3 hc
      rw [if_pos h2,if_pos h2,eb,Option.bind_some,ec,Option.bind_some,bs_size,bs_size,if_pos (by omega),lit32,bs_append,bs_append,bs_append]
      refine ⟨rfl,?_⟩
      simp only [List.length_append,List.length_singleton]
      omega
    · omega
  · rcases h with h|h|⟨_,hb,_⟩
    · omega
    · omega
    · obtain ⟨eb,lb⟩:=itoa_tells x.f2 hb
      rw [if_neg h2,if_neg h2,eb,Option.bind_some,bs_size,if_pos (by omega),lit32,bs_append]
      refine ⟨rfl,?_⟩
      simp only [List.length_append,List.length_singleton]
      omega
def sepd (p:List Ins):List UInt8:=p.flatMap fun x => [59,32] ++ textOf x
theorem sepd_cons (x:Ins) (p:List Ins):sepd (x :: p) = [59,32] ++ textOf x ++ sepd p:=by simp [sepd]
theorem textL_cons (x:Ins) : ∀ p:List Ins,textL (x :: p)=textOf x ++ sepd p
  | []=>by simp [textL,joinS,sepd]
  | y :: p=>by
    have:=textL_cons y p
    unfold textL at *
    rw [List.map_cons,joinS_cons _ _ _ (by simp),this]
    simp [sepd]
end Go.Proofs.YtfckjfoalpkpjaaGreatDoor.Plain
end
namespace Go.Proofs.YtfckjfoalpkpjaaGreatDoor.C
open Go.RowKit Go.Proofs.YtfckjfoalpkpjaaGreatDoorW.PrintWords Go.Proofs.YtfckjfoalpkpjaaGreatDoorW.PrintLast Go.Proofs.YtfckjfoalpkpjaaGreatDoorW.PrintMore
section
attribute [local go_sem] max2_int min2_int max_two min_two max_three min_three max_four min_four
def narcissusref02_names.f  : Option (List ByteArray):=some (([(⟨#[115,101,116]⟩:ByteArray),(⟨#[109,111,118,101]⟩:ByteArray),(⟨#[99,111,110,115]⟩:ByteArray),(⟨#[104,101,97,100]⟩:ByteArray),(⟨#[116,97,105,108]⟩:ByteArray),(⟨#[106,117,109,112]⟩:ByteArray)]:List ByteArray))
set_option maxHeartbeats 8000000 in
set_option maxRecDepth 100000 in
theorem narcissusref02_names.calls  (r:List ByteArray) (w:World) (h:narcissusref02_names.f  = some r) :
  Calls Tryz.prog 70 #[] w fun e w' => ∃ v0_:Value,e = .returned (v0_)∧Kd.R Kd.string 9 w' w.heap.size (fun _=>True) v0_ r∧Below w.heap.size w w':=by
 have HB:=Aside0.mk (Below.refl w.heap.size w)
 have H:(some (([(⟨#[115,101,116]⟩:ByteArray),(⟨#[109,111,118,101]⟩:ByteArray),(⟨#[99,111,110,115]⟩:ByteArray),(⟨#[104,101,97,100]⟩:ByteArray),(⟨#[116,97,105,108]⟩:ByteArray),(⟨#[106,117,109,112]⟩:ByteArray)]:List ByteArray)))=some r:=h
 clear h;obtain ⟨y1,hy1⟩ : ∃ y_:List ByteArray,y_=(([(⟨#[115,101,116]⟩:ByteArray),(⟨#[109,111,118,101]⟩:ByteArray),(⟨#[99,111,110,115]⟩:ByteArray),(⟨#[104,101,97,100]⟩:ByteArray),(⟨#[116,97,105,108]⟩:ByteArray),(⟨#[106,117,109,112]⟩:ByteArray)]:List ByteArray)):=⟨_,rfl⟩
 replace H:(some y1)=some r:=by first|(rw [hy1];with_reducible exact H)|(have H2_:=(Option.bind_some _ _).symm.trans H;rw [hy1];with_reducible exact H2_)|(have H2_:=(Option.bind_some _ _).symm.trans H;with_reducible exact H2_)|with_reducible exact H|(rw [hy1];exact H)|exact H
 have Ny1:=Aside0.mk hy1
 clear hy1;obtain rfl:=Option.some.inj H
 go_enter Tryz.func70,Tryz.ntmps70
 go_wp2_with (first|((with_reducible refine gate_dst (N:=1) rfl ?_);refine Kd.R_lit Kd.string _ 9 ?hg (N:=1) ?hd (xs:=([(⟨#[115,101,116]⟩:ByteArray),(⟨#[109,111,118,101]⟩:ByteArray),(⟨#[99,111,110,115]⟩:ByteArray),(⟨#[104,101,97,100]⟩:ByteArray),(⟨#[116,97,105,108]⟩:ByteArray),(⟨#[106,117,109,112]⟩:ByteArray)]:List ByteArray)) (inner:=[.string (⟨#[115,101,116]⟩:ByteArray),.string (⟨#[109,111,118,101]⟩:ByteArray),.string (⟨#[99,111,110,115]⟩:ByteArray),.string (⟨#[104,101,97,100]⟩:ByteArray),.string (⟨#[116,97,105,108]⟩:ByteArray),.string (⟨#[106,117,109,112]⟩:ByteArray)]) (ok:=fun _=>True) (okp:=fun _=>True) ?hr ?hp (fun _ hk=>hk) trivial (Below.refl _ _) (Nat.le_refl _) (by simp) ?_;(case hd=>rfl);(case hg=>rfl);(case hr=>first|(go_simp;done)|(go_simp;rfl));(case hp=>exact (Reps.one (show Kd.M Kd.string _ _ _ (⟨#[115,101,116]⟩:ByteArray) [.string (⟨#[115,101,116]⟩:ByteArray)] from rfl) (Reps.one (show Kd.M Kd.string _ _ _ (⟨#[109,111,118,101]⟩:ByteArray) [.string (⟨#[109,111,118,101]⟩:ByteArray)] from rfl) (Reps.one (show Kd.M Kd.string _ _ _ (⟨#[99,111,110,115]⟩:ByteArray) [.string (⟨#[99,111,110,115]⟩:ByteArray)] from rfl) (Reps.one (show Kd.M Kd.string _ _ _ (⟨#[104,101,97,100]⟩:ByteArray) [.string (⟨#[104,101,97,100]⟩:ByteArray)] from rfl) (Reps.one (show Kd.M Kd.string _ _ _ (⟨#[116,97,105,108]⟩:ByteArray) [.string (⟨#[116,97,105,108]⟩:ByteArray)] from rfl) (Reps.one (show Kd.M Kd.string _ _ _ (⟨#[106,117,109,112]⟩:ByteArray) [.string (⟨#[106,117,109,112]⟩:ByteArray)] from rfl) (Reps.none _ _))))))));intro v2 w1 ho2 hb hg_ hnew_;clear hg_ hnew_;(first|rw [← Ny1.out] at ho2|(simp only [Int.reduceToNat] at ho2;rw [← Ny1.out] at ho2));have n0_:=Aside0.mk (Kd.R_lower ho2 (below_size (by repeat (first|(with_reducible first|exact HB.out|apply below_alloc|apply pw_below_drewN|apply below_drew1)|exact HB.out))));have n1_:=Aside0.mk (below_step (by repeat (first|(with_reducible first|exact HB.out|apply below_alloc|apply pw_below_drewN|apply below_drew1)|exact HB.out)) hb);clear HB;have HO3:=n0_;have HB:=n1_;clear n0_ n1_;clear hb ho2))
 go_ret
 exact ⟨_,by first|rfl|(simp [errW_none,errW_some]<;>rfl)|(simp [*,errW_none,errW_some]<;>rfl),by (with_reducible repeat (first|apply Kd.R_alloc|apply Kd.R_drewN|apply Kd.R_drew));exact HO3.out,by repeat (first|(with_reducible first|exact HB.out|apply below_alloc|apply pw_below_drewN|apply below_drew1)|exact HB.out)⟩
end
section
attribute [local go_sem] max2_int min2_int max_two min_two max_three min_three max_four min_four
def narcissusref02_Decimal.f:Nat→Int→Option (ByteArray)
 | 0,_=>none
 | k+1,a0=>if a0<0 then ((narcissusref02_Decimal.f k (wrap64 (-a0))).bind fun t1=>(if 1+t1.size≤9223372036854775807 then (some ((⟨#[45]⟩:ByteArray) ++ t1)) else (none))) else (if a0<10 then (some (strOfNums (([(wrap64 (48+a0)) % 256]:List Int)))) else ((narcissusref02_Decimal.f k (wrap64 (Int.tdiv a0 10))).bind fun t5=>((narcissusref02_Decimal.f k (Int.tmod a0 10)).bind fun t6=>(if t5.size+t6.size≤9223372036854775807 then (some (t5 ++ t6)) else (none)))))
theorem narcissusref02_Decimal.mono_l : ∀ k,(∀ y0,LeO (narcissusref02_Decimal.f k y0) (narcissusref02_Decimal.f (k+1) y0))
 | 0=>fun _ r h=>by simp [narcissusref02_Decimal.f] at h
 | k+1=>by
  have ih0:=narcissusref02_Decimal.mono_l k
  ·intro y0
   unfold narcissusref02_Decimal.f
   repeat' first
   | (with_reducible exact ih0 _)
   | (with_reducible exact LeO.refl _)
   | (with_reducible exact LeO.none _)
   | (with_reducible refine LeO.ite ?_ ?_)
   | (with_reducible refine LeO.bind ?_ (fun _=>?_))
   | exact ih0 _
   | exact LeO.none _
   | refine LeO.ite ?_ ?_
   | refine LeO.bind ?_ (fun _=>?_)
theorem narcissusref02_Decimal.mono : ∀ a0 k,LeO (narcissusref02_Decimal.f k a0) (narcissusref02_Decimal.f (k+1) a0):=by
 intro a0 k
 have ih0:=narcissusref02_Decimal.mono_l k
 exact ih0 a0
set_option maxHeartbeats 8000000 in
set_option maxRecDepth 100000 in
theorem narcissusref02_Decimal.calls (k:Nat) : ∀ (a0:Int) (r:ByteArray) (w:World) (h:narcissusref02_Decimal.f k a0=some r),
  Calls Tryz.prog 78 #[.int .i64 a0] w fun e w'=>e = .returned (.string r)∧Below w.heap.size w w':=by
 induction k using Nat.strongRecOn with
 | _ k ih =>
 intro a0 r w h
 cases k with
 | zero=>exact absurd h (by simp [narcissusref02_Decimal.f])
 | succ k =>
 simp only [narcissusref02_Decimal.f] at h
 have HB:=Aside0.mk (Below.refl w.heap.size w)
 have H:(if a0<0 then ((narcissusref02_Decimal.f k (wrap64 (-a0))).bind fun t1=>(if 1+t1.size≤9223372036854775807 then (some ((⟨#[45]⟩:ByteArray) ++ t1)) else (none))) else (if a0<10 then (some (strOfNums (([(wrap64 (48+a0)) % 256]:List Int)))) else ((narcissusref02_Decimal.f k (wrap64 (Int.tdiv a0 10))).bind fun t5=>((narcissusref02_Decimal.f k (Int.tmod a0 10)).bind fun t6=>(if t5.size+t6.size≤9223372036854775807 then (some (t5 ++ t6)) else (none))))))=some r:=h
 clear h;by_cases c2:a0<0
 ·rw [if_pos c2] at H
  have c2b0:decide (a0<0)=true:=decide_eq_true c2
  clear c2;replace H:=Option.bind_eq_some_iff.mp H
  obtain ⟨t1,A30,H⟩:=H
  replace H:(if 1+t1.size≤9223372036854775807 then (some ((⟨#[45]⟩:ByteArray) ++ t1)) else (none))=some r:=H
  have A3:=Aside0.mk A30
  clear A30;by_cases c4:1+t1.size≤9223372036854775807
  ·rw [if_pos c4] at H
   have c4b0:=eq_true c4
   have c4b1:decide (1+t1.size≤9223372036854775807)=true:=decide_eq_true c4
   try have c4b2:(9223372036854775807<1+t1.size)=False:=eq_false (Nat.not_lt.2 c4)
   obtain rfl:=Option.some.inj H
   go_enter Tryz.func78,Tryz.ntmps78
   go_wp2_with (first|((with_reducible refine gate_callee (f:=78) rfl ?_);refine goesL_ (some 7) rfl rfl Tryz.func78 (by kernel_rfl) rfl #[.int .i64 (wrap64 (-a0))] rfl (by (try simp only [List.map_toArray,List.map_cons,List.map_nil]);first|done|rfl) ?_;(with_reducible refine (ih k (by omega) (wrap64 (-a0)) t1 _ A3.out).mono ?_);rintro e w5 ⟨rfl,hb⟩;refine ⟨_,rfl,?_⟩;have n0_:=Aside0.mk (below_step (by repeat (first|(with_reducible first|exact HB.out|apply below_alloc|apply pw_below_drewN|apply below_drew1)|exact HB.out)) hb);clear HB;have HB:=n0_;clear n0_;(try clear hb);(try clear hb2);(try clear hk);(try clear hi)))
   go_ret
   exact ⟨by first|rfl|(simp [errW_none,errW_some]<;>rfl)|(simp [*,errW_none,errW_some]<;>rfl),by repeat (first|(with_reducible first|exact HB.out|apply below_alloc|apply pw_below_drewN|apply below_drew1)|exact HB.out)⟩
  ·rw [if_neg c4] at H
   exact absurd H (by simp)
 ·rw [if_neg c2] at H
  have c2b0:decide (a0<0)=false:=decide_eq_false c2
  clear c2;by_cases c6:a0<10
  ·rw [if_pos c6] at H
   have c6b0:decide (a0<10)=true:=decide_eq_true c6
   clear c6;obtain ⟨y2,hy2⟩ : ∃ y_:List Int,y_=(([(wrap64 (48+a0)) % 256]:List Int)):=⟨_,rfl⟩
   replace H:(some (strOfNums y2))=some r:=by first|(rw [hy2];with_reducible exact H)|(have H2_:=(Option.bind_some _ _).symm.trans H;rw [hy2];with_reducible exact H2_)|(have H2_:=(Option.bind_some _ _).symm.trans H;with_reducible exact H2_)|with_reducible exact H|(rw [hy2];exact H)|exact H
   have Ny2:=Aside0.mk hy2
   clear hy2;obtain rfl:=Option.some.inj H
   go_enter Tryz.func78,Tryz.ntmps78
   go_wp2_with (first|((with_reducible refine gate_dst (N:=14) rfl ?_);refine Kd.R_lit (Kd.int .u8) _ 5 ?hg (N:=14) ?hd (xs:=([(wrap64 (48+a0)) % 256]:List Int)) (inner:=[.int .u8 ((wrap64 (48+a0)) % 256)]) (ok:=fun _=>True) (okp:=fun _=>True) ?hr ?hp (fun _ hk=>hk) trivial (Below.refl _ _) (Nat.le_refl _) (by simp) ?_;(case hd=>rfl);(case hg=>rfl);(case hr=>first|(go_simp;done)|(go_simp;rfl));(case hp=>exact (Reps.one (show Kd.M (Kd.int .u8) _ _ _ ((wrap64 (48+a0)) % 256) [.int .u8 ((wrap64 (48+a0)) % 256)] from rfl) (Reps.none _ _)));intro v3 w7 ho8 hb hg_ hnew_;clear hg_ hnew_;(first|rw [← Ny2.out] at ho8|(simp only [Int.reduceToNat] at ho8;rw [← Ny2.out] at ho8));have n0_:=Aside0.mk (Kd.R_lower ho8 (below_size (by repeat (first|(with_reducible first|exact HB.out|apply below_alloc|apply pw_below_drewN|apply below_drew1)|exact HB.out))));have n1_:=Aside0.mk (below_step (by repeat (first|(with_reducible first|exact HB.out|apply below_alloc|apply pw_below_drewN|apply below_drew1)|exact HB.out)) hb);clear HB;have HO4:=n0_;have HB:=n1_;clear n0_ n1_;clear hb ho8;have hcv9:=own_string (P:=Tryz.prog) Tryz.underlying67 Tryz.underlying5 Tryz.underlying9 (Kd.own_of_R HO4.out)))
   go_ret
   exact ⟨by first|rfl|(simp [errW_none,errW_some]<;>rfl)|(simp [*,errW_none,errW_some]<;>rfl),by repeat (first|(with_reducible first|exact HB.out|apply below_alloc|apply pw_below_drewN|apply below_drew1)|exact HB.out)⟩
  ·rw [if_neg c6] at H
   have c6b0:decide (a0<10)=false:=decide_eq_false c6
   clear c6;replace H:=Option.bind_eq_some_iff.mp H
   obtain ⟨t5,A100,H⟩:=H
   replace H:((narcissusref02_Decimal.f k (Int.tmod a0 10)).bind fun t6=>(if t5.size+t6.size≤9223372036854775807 then (some (t5 ++ t6)) else (none)))=some r:=H
   have A10:=Aside0.mk A100
   clear A100;replace H:=Option.bind_eq_some_iff.mp H
   obtain ⟨t6,A110,H⟩:=H
   replace H:(if t5.size+t6.size≤9223372036854775807 then (some (t5 ++ t6)) else (none))=some r:=H
   have A11:=Aside0.mk A110
   clear A110;by_cases c12:t5.size+t6.size≤9223372036854775807
   ·rw [if_pos c12] at H
    have c12b0:=eq_true c12
    have c12b1:decide (t5.size+t6.size≤9223372036854775807)=true:=decide_eq_true c12
    try have c12b2:(9223372036854775807<t5.size+t6.size)=False:=eq_false (Nat.not_lt.2 c12)
    obtain rfl:=Option.some.inj H
    go_enter Tryz.func78,Tryz.ntmps78
    go_wp2_with (first|((with_reducible refine gate_callee (f:=78) rfl ?_);refine goesL_ (some 18) rfl rfl Tryz.func78 (by kernel_rfl) rfl #[.int .i64 (wrap64 (Int.tdiv a0 10))] rfl (by (try simp only [List.map_toArray,List.map_cons,List.map_nil]);first|done|rfl) ?_;(with_reducible refine (ih k (by omega) (wrap64 (Int.tdiv a0 10)) t5 _ A10.out).mono ?_);rintro e w13 ⟨rfl,hb⟩;refine ⟨_,rfl,?_⟩;have n0_:=Aside0.mk (below_step (by repeat (first|(with_reducible first|exact HB.out|apply below_alloc|apply pw_below_drewN|apply below_drew1)|exact HB.out)) hb);clear HB;have HB:=n0_;clear n0_;(try clear hb);(try clear hb2);(try clear hk);(try clear hi))|((with_reducible refine gate_callee (f:=78) rfl ?_);refine goesL_ (some 21) rfl rfl Tryz.func78 (by kernel_rfl) rfl #[.int .i64 (Int.tmod a0 10)] rfl (by (try simp only [List.map_toArray,List.map_cons,List.map_nil]);first|done|rfl) ?_;(with_reducible refine (ih k (by omega) (Int.tmod a0 10) t6 _ A11.out).mono ?_);rintro e w14 ⟨rfl,hb⟩;refine ⟨_,rfl,?_⟩;have n0_:=Aside0.mk (below_step (by repeat (first|(with_reducible first|exact HB.out|apply below_alloc|apply pw_below_drewN|apply below_drew1)|exact HB.out)) hb);clear HB;have HB:=n0_;clear n0_;(try clear hb);(try clear hb2);(try clear hk);(try clear hi)))
    go_ret
    exact ⟨by first|rfl|(simp [errW_none,errW_some]<;>rfl)|(simp [*,errW_none,errW_some]<;>rfl),by repeat (first|(with_reducible first|exact HB.out|apply below_alloc|apply pw_below_drewN|apply below_drew1)|exact HB.out)⟩
   ·rw [if_neg c12] at H
    exact absurd H (by simp)
end
section
def narcissusref02_TextOf.f (k:Nat) (a0_0:Int) (a0_1:Int) (a0_2:Int) (a0_3:Int) (a0_4:ByteArray):Option ByteArray :=
  if 0≤a0_0∧a0_0<6 then (narcissusref02_Decimal.f k a0_1).bind fun a=>if a.size≤1000 then
    (if a0_0=0 then (if a0_4.size≤140737488355000 then some ((((rdOf ByteArray.empty opNames a0_0 ++ (⟨#[32]⟩:ByteArray)) ++ a) ++ (⟨#[32]⟩:ByteArray)) ++ a0_4) else none)
    else if a0_0=2 then (narcissusref02_Decimal.f k a0_2).bind fun b=>(narcissusref02_Decimal.f k a0_3).bind fun c=>if b.size+c.size≤1000 then some ((((((rdOf ByteArray.empty opNames a0_0 ++ (⟨#[32]⟩:ByteArray)) ++ a) ++ (⟨#[32]⟩:ByteArray)) ++ b) ++ (⟨#[32]⟩:ByteArray)) ++ c) else none
    else (narcissusref02_Decimal.f k a0_2).bind fun b=>if b.size≤1000 then some ((((rdOf ByteArray.empty opNames a0_0 ++ (⟨#[32]⟩:ByteArray)) ++ a) ++ (⟨#[32]⟩:ByteArray)) ++ b) else none)
  else none else none
theorem narcissusref02_TextOf.mono : ∀ a0 a1 a2 a3 a4 k,LeO (narcissusref02_TextOf.f k a0 a1 a2 a3 a4) (narcissusref02_TextOf.f (k+1) a0 a1 a2 a3 a4):=by
  intro a0 a1 a2 a3 a4 k
  unfold narcissusref02_TextOf.f
  have hd : ∀ n,LeO (narcissusref02_Decimal.f k n) (narcissusref02_Decimal.f (k+1) n):=fun n=>narcissusref02_Decimal.mono _ _
  exact LeO.ite (LeO.bind (hd _) (fun a=>LeO.ite (LeO.ite (LeO.refl _) (LeO.ite (LeO.bind (hd _) (fun b=>LeO.bind (hd _) (fun c=>LeO.refl _))) (LeO.bind (hd _) (fun b=>LeO.refl _)))) (LeO.refl _))) (LeO.refl _)
set_option maxHeartbeats 4000000 in
set_option maxRecDepth 100000 in
theorem narcissusref02_TextOf.calls (k:Nat) (a0_0:Int) (a0_1:Int) (a0_2:Int) (a0_3:Int) (a0_4:ByteArray) (r:ByteArray) (w:World) (h:narcissusref02_TextOf.f k a0_0 a0_1 a0_2 a0_3 a0_4=some r) :
    Calls Tryz.prog 55 #[.agg #[.int .i64 a0_0,.int .i64 a0_1,.int .i64 a0_2,.int .i64 a0_3,.string a0_4]] w fun e w'=>e = .returned (.string r)∧Below w.heap.size w w':=by
  unfold narcissusref02_TextOf.f at h
  by_cases hop:0≤a0_0∧a0_0<6
  case neg=>rw [if_neg hop] at h;cases h
  rw [if_pos hop] at h
  obtain ⟨hop0,hop6⟩:=hop
  obtain ⟨a1,ha1,h⟩:=Option.bind_eq_some_iff.1 h
  by_cases hsz:a1.size≤1000
  case neg=>rw [if_neg hsz] at h;cases h
  rw [if_pos hsz] at h
  have HH:=Aside0.mk h
  have HA1:=Aside0.mk ha1
  have HSZ:=Aside0.mk hsz
  have b60:decide ((0:Int)≤a0_0)=true:=decide_eq_true hop0
  have b61:decide (a0_0<6)=true:=decide_eq_true hop6
  have b62:(a0_0<((opNames.length:Nat):Int))=True:=eq_true (by rw [show opNames.length=6 from rfl];omega)
  have HNM:=Aside0.mk (opNames_size a0_0 hop0 hop6)
  have HX3:=Aside0.mk (heap_alloc_new w (.cells #[.int .i64 a0_0,.int .i64 a0_1,.int .i64 a0_2,.int .i64 a0_3,.string a0_4] 42))
  have HB3:=Aside0.mk (below_alloc (Below.refl w.heap.size w) (.cells #[.int .i64 a0_0,.int .i64 a0_1,.int .i64 a0_2,.int .i64 a0_3,.string a0_4] 42))
  clear h ha1 hsz;go_enter Tryz.func55,Tryz.ntmps55
  go_wp2_with fail
  obtain ⟨w3,hw3⟩ : ∃ w3,w3=w.alloc (.cells #[.int .i64 a0_0,.int .i64 a0_1,.int .i64 a0_2,.int .i64 a0_3,.string a0_4] 42):=⟨_,rfl⟩
  rw [← hw3] at HX3 HB3 ⊢
  clear hw3;obtain ⟨nm,hnm⟩ : ∃ nm,nm=rdOf ByteArray.empty opNames a0_0:=⟨_,rfl⟩
  rw [← hnm] at HH HNM
  have hcat1:(9223372036854775807<nm.size+1)=False:=eq_false (by have:=HNM.out;omega)
  have hcat2:(9223372036854775807<nm.size+1+a1.size)=False:=eq_false (by have:=HNM.out;have:=HSZ.out;omega)
  have hl1:(⟨#[32]⟩:ByteArray).size=1:=by rw [lit_size];rfl
  have HNMQ:=Aside0.mk hnm
  have y0:w3.cell? ⟨w.heap.size,0,none⟩=some (.int .i64 a0_0):=by rw [Lib.cell_of_heap HX3.out];rfl
  have y1:w3.cell? ⟨w.heap.size,1,none⟩=some (.int .i64 a0_1):=by rw [Lib.cell_of_heap HX3.out];rfl
  clear hnm;refine start_ (n:=11) (S:=(fun w'=>w'.cell? ⟨w.heap.size,0,none⟩=some (.int .i64 a0_0)∧w'.cell? ⟨w.heap.size,1,none⟩=some (.int .i64 a0_1))) (ds:=[]) #[false,false,false,false,false,false,false,false,false,false,false] (by kernel_rfl) rfl rfl ⟨y0,y1⟩ (fun hHeld=>?_)
  have HX4:Aside0 (w3.drew.heap[w.heap.size]? = some (.cells #[.int .i64 a0_0,.int .i64 a0_1,.int .i64 a0_2,.int .i64 a0_3,.string a0_4] 42 (0,0))):=⟨HX3.out⟩
  have HB4:=Aside0.mk (pw_below_drewN HB3.out 1)
  clear HX3 HB3 y0 y1;change Aside0 (Below w.heap.size w w3.drew) at HB4
  generalize w3.drew=w4 at *
  refine pure_ (i:=1) (N:=some 5) (v:=?_) (a':=?_) #[false,true,false,false,false,false,false,false,false,false,false] rfl rfl (by kernel_rfl) (fun _ _ _ h=>h) (Or.inl ⟨by rfl,?_⟩) ?_ ?_
  rotate_left
  · intro w'
    go_simp
    with_reducible rfl
  rotate_left
  · simp only [Act.put,List.setIfInBounds_toArray,List.set_cons_zero,List.set_cons_succ,i64_w,i32_w]
    rfl
  refine take_ (i:=2) (N:=some 6) (v:=?_) (a':=?_) #[false,true,true,false,false,false,false,false,false,false,false] rfl rfl (by kernel_rfl) (fun _ _ _ h=>h) (Or.inl ⟨by rfl,?_⟩) hHeld ?_ ?_
  rotate_left
  · rintro w' ⟨s0,s1⟩
    go_simp
    with_reducible rfl
  rotate_left
  · simp only [Act.put,List.setIfInBounds_toArray,List.set_cons_zero,List.set_cons_succ,i64_w,i32_w]
    rfl
  refine pure_ (i:=6) (N:=some 10) (v:=?_) (a':=?_) #[false,true,true,false,false,false,true,false,false,false,false] rfl rfl (by kernel_rfl) (fun _ _ _ h=>h) (Or.inl ⟨by rfl,?_⟩) ?_ ?_
  rotate_left
  · intro w'
    go_simp
    with_reducible rfl
  rotate_left
  · simp only [Act.put,List.setIfInBounds_toArray,List.set_cons_zero,List.set_cons_succ,i64_w,i32_w]
    rfl
  refine take_ (i:=7) (N:=some 11) (v:=?_) (a':=?_) #[false,true,true,false,false,false,true,true,false,false,false] rfl rfl (by kernel_rfl) (fun _ _ _ h=>h) (Or.inl ⟨by rfl,?_⟩) hHeld ?_ ?_
  rotate_left
  · rintro w' ⟨s0,s1⟩
    go_simp
    with_reducible rfl
  rotate_left
  · simp only [Act.put,List.setIfInBounds_toArray,List.set_cons_zero,List.set_cons_succ,i64_w,i32_w]
    rfl
  refine one_ (i:=0) (N:=some 4) #[true,true,true,false,false,false,true,true,false,false,false] rfl rfl (by kernel_rfl) (by decide) (fun K hK=>?_)
  refine goes_ Tryz.func70 (by kernel_rfl) rfl #[] (by rfl) rfl rfl (by (try simp only [List.map_toArray,List.map_cons,List.map_nil]);first|done|rfl) ?_
  with_reducible refine (narcissusref02_names.calls opNames _ rfl).mono ?_
  rintro e w5 ⟨v5,rfl,hr5,hb5⟩
  refine ⟨_,rfl,?_⟩
  obtain ⟨g5,c5,rfl,hg5,hlt5,cs5,hk5⟩:=Kd.R_form hr5 (by decide)
  obtain ⟨_,hc5,hC5⟩:=Kd.R_reads' hr5
  obtain ⟨ad5,eA5,hz5⟩:=Kd.at_string hC5 a0_0 hop0 hop6
  obtain rfl:=Option.some.inj eA5
  have HK5:=Aside0.mk hk5
  rw [← HNMQ.out] at hz5
  replace hz5:w5.cell? ⟨g5,a0_0.toNat,none⟩=some (.string nm):=by rw [show (⟨g5,a0_0.toNat,none⟩:Addr)=Addr.add ⟨g5,0,none⟩ a0_0.toNat from by unfold Addr.add;first|rfl|(split<;>simp_all)];exact hz5
  have HX5:=Aside0.mk ((hb5.block _ (Array.getElem?_eq_some_iff.1 HX4.out).1).trans HX4.out)
  have HB5:=Aside0.mk (below_step HB4.out hb5)
  have z0:w5.cell? ⟨w.heap.size,0,none⟩=some (.int .i64 a0_0):=by rw [Lib.cell_of_heap HX5.out];rfl
  have z1:w5.cell? ⟨w.heap.size,1,none⟩=some (.int .i64 a0_1):=by rw [Lib.cell_of_heap HX5.out];rfl
  clear HX4 HB4 hr5 hb5 hC5 hc5 hk5 hg5;refine hK.out _ _ ⟨z0,z1⟩ (fun hHeld=>?_)
  clear hK K;refine norm_ (a':=?_) ?_ ?_
  rotate_left
  · show Act.put _ (some 4) _=_
    simp only [Act.put,List.setIfInBounds_toArray,List.set_cons_zero,List.set_cons_succ,i64_w,i32_w]
    rfl
  clear hHeld;refine restart_ (S':=fun w'=>w'.cell? ⟨w.heap.size,0,none⟩=some (.int .i64 a0_0)∧w'.cell? ⟨w.heap.size,1,none⟩=some (.int .i64 a0_1)∧w'.cell? ⟨g5,a0_0.toNat,none⟩=some (.string nm)) (fun _ h=>⟨h.1,h.2.1⟩) _ _ _ _ ⟨z0,z1,hz5⟩ (fun hHeld=>?_)
  refine pure_ (i:=3) (N:=some 7) (v:=?_) (a':=?_) #[true,true,true,true,false,false,true,true,false,false,false] rfl rfl (by kernel_rfl) (fun _ _ _ h=>h) (Or.inl ⟨by rfl,?_⟩) ?_ ?_
  rotate_left
  · intro w'
    go_simp
    with_reducible rfl
  rotate_left
  · simp only [Act.put,List.setIfInBounds_toArray,List.set_cons_zero,List.set_cons_succ,i64_w,i32_w]
    rfl
  refine take_ (i:=4) (N:=some 8) (v:=?_) (a':=?_) #[true,true,true,true,true,false,true,true,false,false,false] rfl rfl (by kernel_rfl) (fun _ _ _ h=>h) (Or.inl ⟨by rfl,?_⟩) hHeld ?_ ?_
  rotate_left
  · rintro w' ⟨s0,s1,s2⟩
    go_simp
    with_reducible rfl
  rotate_left
  · simp only [Act.put,List.setIfInBounds_toArray,List.set_cons_zero,List.set_cons_succ,i64_w,i32_w]
    rfl
  refine pure_ (i:=5) (N:=some 9) (v:=?_) (a':=?_) #[true,true,true,true,true,true,true,true,false,false,false] rfl rfl (by kernel_rfl) (fun _ _ _ h=>h) (Or.inl ⟨by rfl,?_⟩) ?_ ?_
  rotate_left
  · intro w'
    go_simp
    with_reducible rfl
  rotate_left
  · simp only [Act.put,List.setIfInBounds_toArray,List.set_cons_zero,List.set_cons_succ,i64_w,i32_w]
    rfl
  refine one_ (i:=8) (N:=some 12) #[true,true,true,true,true,true,true,true,true,false,false] rfl rfl (by kernel_rfl) (by decide) (fun K hK=>?_)
  refine goes_ Tryz.func78 (by kernel_rfl) rfl #[.int .i64 a0_1] (by rfl) rfl rfl (by (try simp only [List.map_toArray,List.map_cons,List.map_nil]);first|done|rfl) ?_
  with_reducible refine (narcissusref02_Decimal.calls k a0_1 a1 _ HA1.out).mono ?_
  rintro e w6 ⟨rfl,hb⟩
  refine ⟨_,rfl,?_⟩
  have HX6:=Aside0.mk ((hb.block _ (Array.getElem?_eq_some_iff.1 HX5.out).1).trans HX5.out)
  have HB6:=Aside0.mk (below_step HB5.out hb)
  have hz6:=(hb.cell (World.block_lt_of_cell? _ _ hz5)).trans hz5
  have z0:w6.cell? ⟨w.heap.size,0,none⟩=some (.int .i64 a0_0):=by rw [Lib.cell_of_heap HX6.out];rfl
  have z1:w6.cell? ⟨w.heap.size,1,none⟩=some (.int .i64 a0_1):=by rw [Lib.cell_of_heap HX6.out];rfl
  clear hb;refine hK.out _ _ ⟨z0,z1,hz6⟩ (fun hHeld=>?_)
  clear hK K;refine norm_ (a':=?_) ?_ ?_
  rotate_left
  · show Act.put _ (some 12) _=_
    simp only [Act.put,List.setIfInBounds_toArray,List.set_cons_zero,List.set_cons_succ,i64_w,i32_w]
    rfl
  refine pure_ (i:=9) (N:=some 13) (v:=?_) (a':=?_) #[true,true,true,true,true,true,true,true,true,true,false] rfl rfl (by kernel_rfl) (fun _ _ _ h=>h) (Or.inl ⟨by rfl,?_⟩) ?_ ?_
  rotate_left
  · intro w'
    go_simp
    with_reducible rfl
  rotate_left
  · simp only [Act.put,List.setIfInBounds_toArray,List.set_cons_zero,List.set_cons_succ,i64_w,i32_w]
    rfl
  refine pure_ (i:=10) (N:=some 3) (v:=?_) (a':=?_) #[true,true,true,true,true,true,true,true,true,true,true] rfl rfl (by kernel_rfl) (fun _ _ _ h=>h) (Or.inl ⟨by rfl,?_⟩) ?_ ?_
  rotate_left
  · intro w'
    go_simp
    with_reducible rfl
  rotate_left
  · simp only [Act.put,List.setIfInBounds_toArray,List.set_cons_zero,List.set_cons_succ,i64_w,i32_w]
    rfl
  refine done_ (by kernel_rfl) ?_
  clear hHeld hcat1 hcat2 hz5 hz6 HK5 z0 z1;have HSZ2:Aside0 (((nm ++ (⟨#[32]⟩:ByteArray)) ++ a1).size≤1005):=⟨by rw [ByteArray.size_append,ByteArray.size_append,hl1];have:=HNM.out;have:=HSZ.out;omega⟩
  generalize hA:((nm ++ (⟨#[32]⟩:ByteArray)) ++ a1)=a at *
  clear hA;have y0:w6.cell? ⟨w.heap.size,0,none⟩=some (.int .i64 a0_0):=by rw [Lib.cell_of_heap HX6.out];rfl
  have y1:w6.cell? ⟨w.heap.size,1,none⟩=some (.int .i64 a0_1):=by rw [Lib.cell_of_heap HX6.out];rfl
  have y2:w6.cell? ⟨w.heap.size,2,none⟩=some (.int .i64 a0_2):=by rw [Lib.cell_of_heap HX6.out];rfl
  have y3:w6.cell? ⟨w.heap.size,3,none⟩=some (.int .i64 a0_3):=by rw [Lib.cell_of_heap HX6.out];rfl
  have y4:w6.cell? ⟨w.heap.size,4,none⟩=some (.string a0_4):=by rw [Lib.cell_of_heap HX6.out];rfl
  have h:=HH.out
  clear HX5 HB5;have hcat0:(9223372036854775807<a.size+1)=False:=eq_false (by have:=HSZ2.out;omega)
  by_cases h0:a0_0=0
  · rw [if_pos h0] at h
    by_cases hs4:a0_4.size≤140737488355000
    case neg=>rw [if_neg hs4] at h;cases h
    rw [if_pos hs4] at h
    have HT4:=Aside0.mk (Option.some.inj h)
    have t0:(a0_0 == 0)=true:=beq_iff_eq.2 h0
    have hcat:(9223372036854775807<a.size+1+a0_4.size)=False:=eq_false (by have:=HSZ2.out;omega)
    clear h hs4 h0;go_wp2
    go_ret
    exact ⟨by rw [← HT4.out];rfl,HB6.out⟩
  · rw [if_neg h0] at h
    have t0:(a0_0 == 0)=false:=beq_eq_false_iff_ne.2 h0
    by_cases h2:a0_0=2
    · rw [if_pos h2] at h
      have t2:(a0_0 == 2)=true:=beq_iff_eq.2 h2
      obtain ⟨b1,hb1,h⟩:=Option.bind_eq_some_iff.1 h
      obtain ⟨b2,hb2,h⟩:=Option.bind_eq_some_iff.1 h
      by_cases hs4:b1.size+b2.size≤1000
      case neg=>rw [if_neg hs4] at h;cases h
      rw [if_pos hs4] at h
      have HT4:=Aside0.mk (Option.some.inj h)
      have HI1:=Aside0.mk hb1
      have HI2:=Aside0.mk hb2
      have hcat1:(9223372036854775807<a.size+1+b1.size)=False:=eq_false (by have:=HSZ2.out;omega)
      have hcat2:(9223372036854775807<a.size+1+b1.size+1)=False:=eq_false (by have:=HSZ2.out;omega)
      have hcat3:(9223372036854775807<a.size+1+b1.size+1+b2.size)=False:=eq_false (by have:=HSZ2.out;omega)
      clear h hs4 h0 h2 hb1 hb2;go_wp2_with fail
      refine start_ (n:=12) (S:=(fun w'=>w'.cell? ⟨w.heap.size,2,none⟩=some (.int .i64 a0_2)∧w'.cell? ⟨w.heap.size,3,none⟩=some (.int .i64 a0_3))) (ds:=[]) #[false,false,false,false,false,false,false,false,false,false,false,false] (by kernel_rfl) rfl rfl ⟨y2,y3⟩ (fun hHeld=>?_)
      have HX8:Aside0 (w6.drew.heap[w.heap.size]? = some (.cells #[.int .i64 a0_0,.int .i64 a0_1,.int .i64 a0_2,.int .i64 a0_3,.string a0_4] 42 (0,0))):=⟨HX6.out⟩
      have HB8:=Aside0.mk (pw_below_drewN HB6.out 1)
      clear HX6 HB6 y0 y1 y2 y3 y4;change Aside0 (Below w.heap.size w w6.drew) at HB8
      generalize w6.drew=w8 at *
      refine pure_ (i:=0) (N:=some 25) (v:=?_) (a':=?_) #[true,false,false,false,false,false,false,false,false,false,false,false] rfl rfl (by kernel_rfl) (fun _ _ _ h=>h) (Or.inl ⟨by rfl,?_⟩) ?_ ?_
      rotate_left
      · intro w'
        go_simp
        with_reducible rfl
      rotate_left
      · simp only [Act.put,List.setIfInBounds_toArray,List.set_cons_zero,List.set_cons_succ,i64_w,i32_w]
        rfl
      refine pure_ (i:=1) (N:=some 26) (v:=?_) (a':=?_) #[true,true,false,false,false,false,false,false,false,false,false,false] rfl rfl (by kernel_rfl) (fun _ _ _ h=>h) (Or.inl ⟨by rfl,?_⟩) ?_ ?_
      rotate_left
      · intro w'
        go_simp
        with_reducible rfl
      rotate_left
      · simp only [Act.put,List.setIfInBounds_toArray,List.set_cons_zero,List.set_cons_succ,i64_w,i32_w]
        rfl
      refine pure_ (i:=2) (N:=some 27) (v:=?_) (a':=?_) #[true,true,true,false,false,false,false,false,false,false,false,false] rfl rfl (by kernel_rfl) (fun _ _ _ h=>h) (Or.inl ⟨by rfl,?_⟩) ?_ ?_
      rotate_left
      · intro w'
        go_simp
        with_reducible rfl
      rotate_left
      · simp only [Act.put,List.setIfInBounds_toArray,List.set_cons_zero,List.set_cons_succ,i64_w,i32_w]
        rfl
      refine take_ (i:=3) (N:=some 28) (v:=?_) (a':=?_) #[true,true,true,true,false,false,false,false,false,false,false,false] rfl rfl (by kernel_rfl) (fun _ _ _ h=>h) (Or.inl ⟨by rfl,?_⟩) hHeld ?_ ?_
      rotate_left
      · rintro w' ⟨s0,s1⟩
        go_simp
        with_reducible rfl
      rotate_left
      · simp only [Act.put,List.setIfInBounds_toArray,List.set_cons_zero,List.set_cons_succ,i64_w,i32_w]
        rfl
      refine pure_ (i:=7) (N:=some 32) (v:=?_) (a':=?_) #[true,true,true,true,false,false,false,true,false,false,false,false] rfl rfl (by kernel_rfl) (fun _ _ _ h=>h) (Or.inl ⟨by rfl,?_⟩) ?_ ?_
      rotate_left
      · intro w'
        go_simp
        with_reducible rfl
      rotate_left
      · simp only [Act.put,List.setIfInBounds_toArray,List.set_cons_zero,List.set_cons_succ,i64_w,i32_w]
        rfl
      refine take_ (i:=8) (N:=some 33) (v:=?_) (a':=?_) #[true,true,true,true,false,false,false,true,true,false,false,false] rfl rfl (by kernel_rfl) (fun _ _ _ h=>h) (Or.inl ⟨by rfl,?_⟩) hHeld ?_ ?_
      rotate_left
      · rintro w' ⟨s0,s1⟩
        go_simp
        with_reducible rfl
      rotate_left
      · simp only [Act.put,List.setIfInBounds_toArray,List.set_cons_zero,List.set_cons_succ,i64_w,i32_w]
        rfl
      refine one_ (i:=4) (N:=some 29) #[true,true,true,true,true,false,false,true,true,false,false,false] rfl rfl (by kernel_rfl) (by decide) (fun K hK=>?_)
      refine goes_ Tryz.func78 (by kernel_rfl) rfl #[.int .i64 a0_2] (by rfl) rfl rfl (by (try simp only [List.map_toArray,List.map_cons,List.map_nil]);first|done|rfl) ?_
      with_reducible refine (narcissusref02_Decimal.calls k a0_2 b1 _ HI1.out).mono ?_
      rintro e w9 ⟨rfl,hb⟩
      refine ⟨_,rfl,?_⟩
      have HX9:=Aside0.mk ((hb.block _ (Array.getElem?_eq_some_iff.1 HX8.out).1).trans HX8.out)
      have HB9:=Aside0.mk (below_step HB8.out hb)
      have z2:w9.cell? ⟨w.heap.size,2,none⟩=some (.int .i64 a0_2):=by rw [Lib.cell_of_heap HX9.out];rfl
      have z3:w9.cell? ⟨w.heap.size,3,none⟩=some (.int .i64 a0_3):=by rw [Lib.cell_of_heap HX9.out];rfl
      clear hb;refine hK.out _ _ ⟨z2,z3⟩ (fun hHeld=>?_)
      clear hK K;refine norm_ (a':=?_) ?_ ?_
      rotate_left
      · show Act.put _ (some 29) _=_
        simp only [Act.put,List.setIfInBounds_toArray,List.set_cons_zero,List.set_cons_succ,i64_w,i32_w]
        rfl
      refine pure_ (i:=5) (N:=some 30) (v:=?_) (a':=?_) #[true,true,true,true,true,true,false,true,true,false,false,false] rfl rfl (by kernel_rfl) (fun _ _ _ h=>h) (Or.inl ⟨by rfl,?_⟩) ?_ ?_
      rotate_left
      · intro w'
        go_simp
        with_reducible rfl
      rotate_left
      · simp only [Act.put,List.setIfInBounds_toArray,List.set_cons_zero,List.set_cons_succ,i64_w,i32_w]
        rfl
      refine pure_ (i:=6) (N:=some 31) (v:=?_) (a':=?_) #[true,true,true,true,true,true,true,true,true,false,false,false] rfl rfl (by kernel_rfl) (fun _ _ _ h=>h) (Or.inl ⟨by rfl,?_⟩) ?_ ?_
      rotate_left
      · intro w'
        go_simp
        with_reducible rfl
      rotate_left
      · simp only [Act.put,List.setIfInBounds_toArray,List.set_cons_zero,List.set_cons_succ,i64_w,i32_w]
        rfl
      refine one_ (i:=9) (N:=some 34) #[true,true,true,true,true,true,true,true,true,true,false,false] rfl rfl (by kernel_rfl) (by decide) (fun K hK=>?_)
      refine goes_ Tryz.func78 (by kernel_rfl) rfl #[.int .i64 a0_3] (by rfl) rfl rfl (by (try simp only [List.map_toArray,List.map_cons,List.map_nil]);first|done|rfl) ?_
      with_reducible refine (narcissusref02_Decimal.calls k a0_3 b2 _ HI2.out).mono ?_
      rintro e w10 ⟨rfl,hb⟩
      refine ⟨_,rfl,?_⟩
      have HX10:=Aside0.mk ((hb.block _ (Array.getElem?_eq_some_iff.1 HX9.out).1).trans HX9.out)
      have HB10:=Aside0.mk (below_step HB9.out hb)
      have z2:w10.cell? ⟨w.heap.size,2,none⟩=some (.int .i64 a0_2):=by rw [Lib.cell_of_heap HX10.out];rfl
      have z3:w10.cell? ⟨w.heap.size,3,none⟩=some (.int .i64 a0_3):=by rw [Lib.cell_of_heap HX10.out];rfl
      clear hb;refine hK.out _ _ ⟨z2,z3⟩ (fun hHeld=>?_)
      clear hK K;refine norm_ (a':=?_) ?_ ?_
      rotate_left
      · show Act.put _ (some 34) _=_
        simp only [Act.put,List.setIfInBounds_toArray,List.set_cons_zero,List.set_cons_succ,i64_w,i32_w]
        rfl
      refine pure_ (i:=10) (N:=some 35) (v:=?_) (a':=?_) #[true,true,true,true,true,true,true,true,true,true,true,false] rfl rfl (by kernel_rfl) (fun _ _ _ h=>h) (Or.inl ⟨by rfl,?_⟩) ?_ ?_
      rotate_left
      · intro w'
        go_simp
        with_reducible rfl
      rotate_left
      · simp only [Act.put,List.setIfInBounds_toArray,List.set_cons_zero,List.set_cons_succ,i64_w,i32_w]
        rfl
      refine pure_ (i:=11) (N:=some 2) (v:=?_) (a':=?_) #[true,true,true,true,true,true,true,true,true,true,true,true] rfl rfl (by kernel_rfl) (fun _ _ _ h=>h) (Or.inl ⟨by rfl,?_⟩) ?_ ?_
      rotate_left
      · intro w'
        go_simp
        with_reducible rfl
      rotate_left
      · simp only [Act.put,List.setIfInBounds_toArray,List.set_cons_zero,List.set_cons_succ,i64_w,i32_w]
        rfl
      refine done_ (by kernel_rfl) ?_
      go_wp2
      go_ret
      exact ⟨by rw [← HT4.out];rfl,HB10.out⟩
    · rw [if_neg h2] at h
      have t2:(a0_0 == 2)=false:=beq_eq_false_iff_ne.2 h2
      obtain ⟨b1,hb1,h⟩:=Option.bind_eq_some_iff.1 h
      by_cases hs4:b1.size≤1000
      case neg=>rw [if_neg hs4] at h;cases h
      rw [if_pos hs4] at h
      have HT4:=Aside0.mk (Option.some.inj h)
      have HI1:=Aside0.mk hb1
      have hcat:(9223372036854775807<a.size+1+b1.size)=False:=eq_false (by have:=HSZ2.out;omega)
      clear h hs4 h0 h2 hb1;go_wp2_with fail
      refine (narcissusref02_Decimal.calls k a0_2 b1 _ HI1.out).mono ?_
      rintro e w8 ⟨rfl,hb8⟩
      have HB8:=Aside0.mk (below_step HB6.out hb8)
      clear hb8;go_wp2
      go_ret
      exact ⟨by rw [← HT4.out];rfl,HB8.out⟩
end
section
attribute [local go_sem] max2_int min2_int max_two min_two max_three min_three max_four min_four
def narcissusref02_Text.l0:Nat→List (S42)→List Int→Int→Option (ByteArray)
 | 0,_,_,_=>none
 | k+1,x0,x3,x4=>if x4<(x0.length:Int) then (if x4 > 0 then (if x3.length+2<140737488355328 then ((some (x3 ++ bytesOf (⟨#[59,32]⟩:ByteArray):List Int)).bind fun y1=>(if 0≤x4 then ((narcissusref02_TextOf.f k ((rd_T42 x0 x4).f0) ((rd_T42 x0 x4).f1) ((rd_T42 x0 x4).f2) ((rd_T42 x0 x4).f3) ((rd_T42 x0 x4).f4)).bind fun t5=>(if y1.length+t5.size<140737488355328 then (narcissusref02_Text.l0 k x0 (y1 ++ bytesOf t5) (wrap64 (x4+1))) else (none))) else (none))) else (none)) else (if 0≤x4 then ((narcissusref02_TextOf.f k ((rd_T42 x0 x4).f0) ((rd_T42 x0 x4).f1) ((rd_T42 x0 x4).f2) ((rd_T42 x0 x4).f3) ((rd_T42 x0 x4).f4)).bind fun t10=>(if x3.length+t10.size<140737488355328 then (narcissusref02_Text.l0 k x0 (x3 ++ bytesOf t10) (wrap64 (x4+1))) else (none))) else (none))) else (some (strOfNums x3))
def narcissusref02_Text.f (k:Nat) (l0:List (S42)):Option (ByteArray):=narcissusref02_Text.l0 k l0 ([]:List Int) 0
theorem narcissusref02_Text.mono_l : ∀ k,(∀ y0 y1 y2,LeO (narcissusref02_Text.l0 k y0 y1 y2) (narcissusref02_Text.l0 (k+1) y0 y1 y2))
 | 0=>fun _ _ _ r h=>by simp [narcissusref02_Text.l0] at h
 | k+1=>by
  have ih0:=narcissusref02_Text.mono_l k
  ·intro y0 y1 y2
   unfold narcissusref02_Text.l0
   repeat' first
   | (with_reducible exact ih0 _ _ _)
   | (with_reducible exact narcissusref02_TextOf.mono _ _ _ _ _ _)
   | (with_reducible exact LeO.refl _)
   | (with_reducible exact LeO.none _)
   | (with_reducible refine LeO.ite ?_ ?_)
   | (with_reducible refine LeO.bind ?_ (fun _=>?_))
   | exact ih0 _ _ _
   | exact narcissusref02_TextOf.mono _ _ _ _ _ _
   | exact LeO.none _
   | refine LeO.ite ?_ ?_
   | refine LeO.bind ?_ (fun _=>?_)
theorem narcissusref02_Text.mono : ∀ a0 k,LeO (narcissusref02_Text.f k a0) (narcissusref02_Text.f (k+1) a0):=by
 intro a0 k
 have ih0:=narcissusref02_Text.mono_l k
 unfold narcissusref02_Text.f
 repeat' first
   | (with_reducible exact ih0 _ _ _)
   | (with_reducible exact narcissusref02_TextOf.mono _ _ _ _ _ _)
   | (with_reducible exact LeO.refl _)
   | (with_reducible exact LeO.none _)
   | (with_reducible refine LeO.ite ?_ ?_)
   | (with_reducible refine LeO.bind ?_ (fun _=>?_))
   | exact ih0 _ _ _
   | exact narcissusref02_TextOf.mono _ _ _ _ _ _
   | exact LeO.none _
   | refine LeO.ite ?_ ?_
   | refine LeO.bind ?_ (fun _=>?_)
set_option maxHeartbeats 8000000 in
set_option maxRecDepth 100000 in
theorem narcissusref02_Text.calls (k:Nat) (A0:Option Addr) (c0:Nat) (l0:List (S42)) (r:ByteArray) (w:World) (hr0:Kd.C k42 w A0 l0.length l0) (hc0:l0.length≤c0) (h:narcissusref02_Text.f k l0=some r) :
  Calls Tryz.prog 25 #[.slice A0 l0.length c0] w fun e w'=>e = .returned (.string r)∧Below w.heap.size w w':=by
 have hu42:=Tryz.underlying42
 have HR0:=Aside0.mk hr0
 have HC0:=Aside0.mk hc0
 clear hr0 hc0;have HB:=Aside0.mk (Below.refl w.heap.size w)
 have H:(narcissusref02_Text.l0 k l0 ([]:List Int) 0)=some r:=h
 clear h;have H':=Aside0.mk H
 clear H;go_enter Tryz.func25,Tryz.ntmps25
 go_wp2
 go_loopg [3,4] k (fun kq v3 v4 w' => ∃ (x3_1:List Int) (x4_1:Int),v4 = .int .i64 x4_1∧Aside0 (narcissusref02_Text.l0 kq l0 x3_1 x4_1=some r)∧Aside0 (kq≤k)∧Aside0 (Kd.R (Kd.int .u8) 5 w' w.heap.size (fun _=>True) v3 x3_1)∧Aside0 (Below w.heap.size w w'))
 case atStart=>exact ⟨(([]:List Int)),(0),(by first|rfl|(simp;done)|(simp [*];done)),H',⟨Nat.le_refl _⟩,⟨by first|exact Kd.R_nil _ _ _ _ _|exact Kd.N_nil _ _ _ _ _|exact Kd.V_nil _ _ _ _ _|exact Kd.Q_nil _ _ _ _ _|exact Kd.S_nil _ _ _ _ _⟩,⟨by repeat (first|(with_reducible first|exact HB.out|apply below_alloc|apply pw_below_drewN|apply below_drew1)|exact HB.out)⟩⟩
 case round =>
  clear H';obtain ⟨x3_1,x4_1,rfl,HA,HK1,HO_3,HB⟩:=hrel
  cases gk with
  | zero=>exact absurd HA.out (by simp [narcissusref02_Text.l0])
  | succ k1 =>
   have H:=HA.out
   clear HA;simp only [narcissusref02_Text.l0] at H
   by_cases c2:x4_1<(l0.length:Int)
   ·rw [if_pos c2] at H
    have c2b0:decide (x4_1<(l0.length:Int))=true:=decide_eq_true c2
    clear c2;by_cases c3:x4_1 > 0
    ·rw [if_pos c3] at H
     have c3b0:decide (0<x4_1)=true:=decide_eq_true c3
     clear c3;by_cases c4:x3_1.length+2<140737488355328
     ·rw [if_pos c4] at H
      have LMc4:=Aside0.mk c4
      clear c4;obtain ⟨y1,hy1⟩ : ∃ y_:List Int,y_=(x3_1 ++ bytesOf (⟨#[59,32]⟩:ByteArray)):=⟨_,rfl⟩
      replace H:(if 0≤x4_1 then ((narcissusref02_TextOf.f k1 ((rd_T42 l0 x4_1).f0) ((rd_T42 l0 x4_1).f1) ((rd_T42 l0 x4_1).f2) ((rd_T42 l0 x4_1).f3) ((rd_T42 l0 x4_1).f4)).bind fun t5=>(if y1.length+t5.size<140737488355328 then (narcissusref02_Text.l0 k1 l0 (y1 ++ bytesOf t5) (wrap64 (x4_1+1))) else (none))) else (none))=some r:=by first|(rw [hy1];with_reducible exact H)|(have H2_:=(Option.bind_some _ _).symm.trans H;rw [hy1];with_reducible exact H2_)|(have H2_:=(Option.bind_some _ _).symm.trans H;with_reducible exact H2_)|with_reducible exact H|(rw [hy1];exact H)|exact H
      have Ny1:=Aside0.mk hy1
      clear hy1;by_cases c5:0≤x4_1
      ·rw [if_pos c5] at H
       have c5b0:decide (0≤x4_1)=true:=decide_eq_true c5
       clear c5;replace H:=Option.bind_eq_some_iff.mp H
       obtain ⟨t5,A60,H⟩:=H
       replace H:(if y1.length+t5.size<140737488355328 then (narcissusref02_Text.l0 k1 l0 (y1 ++ bytesOf t5) (wrap64 (x4_1+1))) else (none))=some r:=H
       have A6:=Aside0.mk A60
       clear A60;by_cases c7:y1.length+t5.size<140737488355328
       ·rw [if_pos c7] at H
        have LMc7:=Aside0.mk c7
        clear c7;obtain ⟨y6,hy6⟩ : ∃ y_:List Int,y_=(y1 ++ bytesOf t5):=⟨_,rfl⟩
        replace H:(narcissusref02_Text.l0 k1 l0 y6 (wrap64 (x4_1+1)))=some r:=by first|(rw [hy6];with_reducible exact H)|(have H2_:=(Option.bind_some _ _).symm.trans H;rw [hy6];with_reducible exact H2_)|(have H2_:=(Option.bind_some _ _).symm.trans H;with_reducible exact H2_)|with_reducible exact H|(rw [hy6];exact H)|exact H
        have Ny6:=Aside0.mk hy6
        clear hy6;have H':=Aside0.mk H
        clear H;go_wp2_with (first|(at_builtin;refine print_append_str (w0:=w) w.heap.size rfl (.tmp 13) _ 67 9 5 rfl Tryz.underlying67 Tryz.underlying9 info5 u3 x3_1 (⟨#[59,32]⟩:ByteArray) rfl rfl ?aO ?aB ?aS ?aL ?_;(case aB=>exact (by repeat (first|(with_reducible first|exact HB.out|apply below_alloc|apply pw_below_drewN|apply below_drew1)|exact HB.out)));(case aO=>exact (Kd.own_of_R (by (with_reducible repeat (first|apply Kd.R_alloc|apply Kd.R_drewN|apply Kd.R_drew));exact HO_3.out)));(case aS=>exact (below_size (by repeat (first|(with_reducible first|exact HB.out|apply below_alloc|apply pw_below_drewN|apply below_drew1)|exact HB.out))));(case aL=>have:=LMc4.out;first|omega|(simp only [lit_size,List.size_toArray,List.length_cons,List.length_nil];omega));intro v2 w8 ho0 hb hg;have ho:=Kd.R_of_own (h1:=fun _=>rfl) (ok:=fun _=>True) ho0 (fun _ _=>trivial);clear ho0;have hat:=True.intro;rw [← Ny1.out] at ho;change Kd.R (Kd.int .u8) 5 w8 w.heap.size (fun _=>True) v2 y1 at ho;have n0_:=Aside0.mk (hb);have n1_:=Aside0.mk (ho);clear HB;clear HO_3;have HB:=n0_;have HO3:=n1_;clear n0_ n1_;clear ho hb hg hat;have p4:0≤(x4_1:Int):=of_decide_eq_true (by first|(with_reducible assumption)|assumption);have q4:x4_1<(l0.length:Int):=of_decide_eq_true (by first|(with_reducible assumption)|assumption);obtain ⟨ad4,e4,hx4_0,hx4_1,hx4_2,hx4_3,hx4_4⟩:=at_T42 HR0.out x4_1 p4 q4;cases e4;replace hx4_0:=(HB.out.cell (World.block_lt_of_cell? w _ hx4_0)).trans hx4_0;replace hx4_1:=(HB.out.cell (World.block_lt_of_cell? w _ hx4_1)).trans hx4_1;replace hx4_2:=(HB.out.cell (World.block_lt_of_cell? w _ hx4_2)).trans hx4_2;replace hx4_3:=(HB.out.cell (World.block_lt_of_cell? w _ hx4_3)).trans hx4_3;replace hx4_4:=(HB.out.cell (World.block_lt_of_cell? w _ hx4_4)).trans hx4_4;replace p4:=eq_true p4;replace q4:=eq_true q4)|((with_reducible refine gate_callee (f:=55) rfl ?_);refine goesL_ (some 20) rfl rfl Tryz.func55 (by kernel_rfl) rfl #[.agg #[.int .i64 ((rd_T42 l0 x4_1).f0),.int .i64 ((rd_T42 l0 x4_1).f1),.int .i64 ((rd_T42 l0 x4_1).f2),.int .i64 ((rd_T42 l0 x4_1).f3),.string ((rd_T42 l0 x4_1).f4)]] rfl (by (try simp only [List.map_toArray,List.map_cons,List.map_nil]);first|done|rfl) ?_;(with_reducible refine (narcissusref02_TextOf.calls k1 ((rd_T42 l0 x4_1).f0) ((rd_T42 l0 x4_1).f1) ((rd_T42 l0 x4_1).f2) ((rd_T42 l0 x4_1).f3) ((rd_T42 l0 x4_1).f4) t5 _ A6.out).mono ?_);rintro e w9 ⟨rfl,hb⟩;refine ⟨_,rfl,?_⟩;have n0_:=Aside0.mk (Kd.R_below (by (with_reducible repeat (first|apply Kd.R_alloc|apply Kd.R_drewN|apply Kd.R_drew));exact HO3.out) hb);have n1_:=Aside0.mk (below_step (by repeat (first|(with_reducible first|exact HB.out|apply below_alloc|apply pw_below_drewN|apply below_drew1)|exact HB.out)) hb);clear HO3;clear HB;have HO3:=n0_;have HB:=n1_;clear n0_ n1_;(try clear hb);(try clear hb2);(try clear hk);(try clear hi))|(at_builtin;refine print_append_str (w0:=w) w.heap.size rfl (.tmp 15) _ 67 9 5 rfl Tryz.underlying67 Tryz.underlying9 info5 v2 y1 t5 rfl rfl ?aO ?aB ?aS ?aL ?_;(case aB=>exact (by repeat (first|(with_reducible first|exact HB.out|apply below_alloc|apply pw_below_drewN|apply below_drew1)|exact HB.out)));(case aO=>exact (Kd.own_of_R (by (with_reducible repeat (first|apply Kd.R_alloc|apply Kd.R_drewN|apply Kd.R_drew));exact HO3.out)));(case aS=>exact (below_size (by repeat (first|(with_reducible first|exact HB.out|apply below_alloc|apply pw_below_drewN|apply below_drew1)|exact HB.out))));(case aL=>have:=LMc7.out;first|omega|(simp only [lit_size,List.size_toArray,List.length_cons,List.length_nil];omega));intro v7 w10 ho0 hb hg;have ho:=Kd.R_of_own (h1:=fun _=>rfl) (ok:=fun _=>True) ho0 (fun _ _=>trivial);clear ho0;have hat:=True.intro;rw [← Ny6.out] at ho;change Kd.R (Kd.int .u8) 5 w10 w.heap.size (fun _=>True) v7 y6 at ho;have n0_:=Aside0.mk (hb);have n1_:=Aside0.mk (ho);clear HB;clear HO3;have HB:=n0_;have HO8:=n1_;clear n0_ n1_;clear ho hb hg hat))
        go_roundg k1
        case measure=>have:=HK1.out;omega
        case rel=>exact ⟨(y6),(wrap64 (x4_1+1)),(by first|rfl|(simp;done)|(simp [*];done)),H',⟨by have:=HK1.out;omega⟩,⟨by (with_reducible repeat (first|apply Kd.R_alloc|apply Kd.R_drewN|apply Kd.R_drew));exact HO8.out⟩,⟨by repeat (first|(with_reducible first|exact HB.out|apply below_alloc|apply pw_below_drewN|apply below_drew1)|exact HB.out)⟩⟩
       ·rw [if_neg c7] at H
        exact absurd H (by simp)
      ·rw [if_neg c5] at H
       exact absurd H (by simp)
     ·rw [if_neg c4] at H
      exact absurd H (by simp)
    ·rw [if_neg c3] at H
     have c3b0:decide (0<x4_1)=false:=decide_eq_false c3
     clear c3;by_cases c11:0≤x4_1
     ·rw [if_pos c11] at H
      have c11b0:decide (0≤x4_1)=true:=decide_eq_true c11
      clear c11;replace H:=Option.bind_eq_some_iff.mp H
      obtain ⟨t10,A120,H⟩:=H
      replace H:(if x3_1.length+t10.size<140737488355328 then (narcissusref02_Text.l0 k1 l0 (x3_1 ++ bytesOf t10) (wrap64 (x4_1+1))) else (none))=some r:=H
      have A12:=Aside0.mk A120
      clear A120;by_cases c13:x3_1.length+t10.size<140737488355328
      ·rw [if_pos c13] at H
       have LMc13:=Aside0.mk c13
       clear c13;obtain ⟨y11,hy11⟩ : ∃ y_:List Int,y_=(x3_1 ++ bytesOf t10):=⟨_,rfl⟩
       replace H:(narcissusref02_Text.l0 k1 l0 y11 (wrap64 (x4_1+1)))=some r:=by first|(rw [hy11];with_reducible exact H)|(have H2_:=(Option.bind_some _ _).symm.trans H;rw [hy11];with_reducible exact H2_)|(have H2_:=(Option.bind_some _ _).symm.trans H;with_reducible exact H2_)|with_reducible exact H|(rw [hy11];exact H)|exact H
       have Ny11:=Aside0.mk hy11
       clear hy11;have H':=Aside0.mk H
       clear H;have p9:0≤(x4_1:Int):=of_decide_eq_true (by first|(with_reducible assumption)|assumption)
       have q9:x4_1<(l0.length:Int):=of_decide_eq_true (by first|(with_reducible assumption)|assumption)
       obtain ⟨ad9,e9,hx9_0,hx9_1,hx9_2,hx9_3,hx9_4⟩:=at_T42 HR0.out x4_1 p9 q9
       cases e9
       replace hx9_0:=(HB.out.cell (World.block_lt_of_cell? w _ hx9_0)).trans hx9_0
       replace hx9_1:=(HB.out.cell (World.block_lt_of_cell? w _ hx9_1)).trans hx9_1
       replace hx9_2:=(HB.out.cell (World.block_lt_of_cell? w _ hx9_2)).trans hx9_2
       replace hx9_3:=(HB.out.cell (World.block_lt_of_cell? w _ hx9_3)).trans hx9_3
       replace hx9_4:=(HB.out.cell (World.block_lt_of_cell? w _ hx9_4)).trans hx9_4
       replace p9:=eq_true p9;replace q9:=eq_true q9;go_wp2_with (first|((with_reducible refine gate_callee (f:=55) rfl ?_);refine goesL_ (some 20) rfl rfl Tryz.func55 (by kernel_rfl) rfl #[.agg #[.int .i64 ((rd_T42 l0 x4_1).f0),.int .i64 ((rd_T42 l0 x4_1).f1),.int .i64 ((rd_T42 l0 x4_1).f2),.int .i64 ((rd_T42 l0 x4_1).f3),.string ((rd_T42 l0 x4_1).f4)]] rfl (by (try simp only [List.map_toArray,List.map_cons,List.map_nil]);first|done|rfl) ?_;(with_reducible refine (narcissusref02_TextOf.calls k1 ((rd_T42 l0 x4_1).f0) ((rd_T42 l0 x4_1).f1) ((rd_T42 l0 x4_1).f2) ((rd_T42 l0 x4_1).f3) ((rd_T42 l0 x4_1).f4) t10 _ A12.out).mono ?_);rintro e w14 ⟨rfl,hb⟩;refine ⟨_,rfl,?_⟩;have n0_:=Aside0.mk (Kd.R_below (by (with_reducible repeat (first|apply Kd.R_alloc|apply Kd.R_drewN|apply Kd.R_drew));exact HO_3.out) hb);have n1_:=Aside0.mk (below_step (by repeat (first|(with_reducible first|exact HB.out|apply below_alloc|apply pw_below_drewN|apply below_drew1)|exact HB.out)) hb);clear HO_3;clear HB;have HO_3:=n0_;have HB:=n1_;clear n0_ n1_;(try clear hb);(try clear hb2);(try clear hk);(try clear hi))|(at_builtin;refine print_append_str (w0:=w) w.heap.size rfl (.tmp 15) _ 67 9 5 rfl Tryz.underlying67 Tryz.underlying9 info5 u3 x3_1 t10 rfl rfl ?aO ?aB ?aS ?aL ?_;(case aB=>exact (by repeat (first|(with_reducible first|exact HB.out|apply below_alloc|apply pw_below_drewN|apply below_drew1)|exact HB.out)));(case aO=>exact (Kd.own_of_R (by (with_reducible repeat (first|apply Kd.R_alloc|apply Kd.R_drewN|apply Kd.R_drew));exact HO_3.out)));(case aS=>exact (below_size (by repeat (first|(with_reducible first|exact HB.out|apply below_alloc|apply pw_below_drewN|apply below_drew1)|exact HB.out))));(case aL=>have:=LMc13.out;first|omega|(simp only [lit_size,List.size_toArray,List.length_cons,List.length_nil];omega));intro v12 w15 ho0 hb hg;have ho:=Kd.R_of_own (h1:=fun _=>rfl) (ok:=fun _=>True) ho0 (fun _ _=>trivial);clear ho0;have hat:=True.intro;rw [← Ny11.out] at ho;change Kd.R (Kd.int .u8) 5 w15 w.heap.size (fun _=>True) v12 y11 at ho;have n0_:=Aside0.mk (hb);have n1_:=Aside0.mk (ho);clear HB;clear HO_3;have HB:=n0_;have HO13:=n1_;clear n0_ n1_;clear ho hb hg hat))
       go_roundg k1
       case measure=>have:=HK1.out;omega
       case rel=>exact ⟨(y11),(wrap64 (x4_1+1)),(by first|rfl|(simp;done)|(simp [*];done)),H',⟨by have:=HK1.out;omega⟩,⟨by (with_reducible repeat (first|apply Kd.R_alloc|apply Kd.R_drewN|apply Kd.R_drew));exact HO13.out⟩,⟨by repeat (first|(with_reducible first|exact HB.out|apply below_alloc|apply pw_below_drewN|apply below_drew1)|exact HB.out)⟩⟩
      ·rw [if_neg c13] at H
       exact absurd H (by simp)
     ·rw [if_neg c11] at H
      exact absurd H (by simp)
   ·rw [if_neg c2] at H
    have c2b0:decide (x4_1<(l0.length:Int))=false:=decide_eq_false c2
    clear c2;obtain rfl:=Option.some.inj H
    have hcv16:=own_string (P:=Tryz.prog) Tryz.underlying67 Tryz.underlying5 Tryz.underlying9 (Kd.own_of_R HO_3.out)
    go_wp2
    go_ret
    exact ⟨by first|rfl|(simp [errW_none,errW_some]<;>rfl)|(simp [*,errW_none,errW_some]<;>rfl),by repeat (first|(with_reducible first|exact HB.out|apply below_alloc|apply pw_below_drewN|apply below_drew1)|exact HB.out)⟩
end
section
attribute [local go_sem] max2_int min2_int max_two min_two max_three min_three max_four min_four
def narcissusref02_Regs.l0:Nat→List (S42)→Int→Int→Option (Int)
 | 0,_,_,_=>none
 | k+1,x0,x3,x4=>if x4<(x0.length:Int) then (if 0≤x4 then (if ((rd_T42 x0 x4).f0)=5 then (narcissusref02_Regs.l0 k x0 (mx x3 (wrap64 (((rd_T42 x0 x4).f1)+1))) (wrap64 (x4+1))) else (narcissusref02_Regs.l0 k x0 (mx (mx (mx x3 (wrap64 (((rd_T42 x0 x4).f1)+1))) (wrap64 (((rd_T42 x0 x4).f2)+1))) (wrap64 (((rd_T42 x0 x4).f3)+1))) (wrap64 (x4+1)))) else (none)) else (some x3)
def narcissusref02_Regs.f (k:Nat) (l0:List (S42)):Option (Int):=narcissusref02_Regs.l0 k l0 1 0
theorem narcissusref02_Regs.mono_l : ∀ k,(∀ y0 y1 y2,LeO (narcissusref02_Regs.l0 k y0 y1 y2) (narcissusref02_Regs.l0 (k+1) y0 y1 y2))
 | 0=>fun _ _ _ r h=>by simp [narcissusref02_Regs.l0] at h
 | k+1=>by
  have ih0:=narcissusref02_Regs.mono_l k
  ·intro y0 y1 y2
   unfold narcissusref02_Regs.l0
   repeat' first
   | (with_reducible exact ih0 _ _ _)
   | (with_reducible exact LeO.refl _)
   | (with_reducible exact LeO.none _)
   | (with_reducible refine LeO.ite ?_ ?_)
   | (with_reducible refine LeO.bind ?_ (fun _=>?_))
   | exact ih0 _ _ _
   | exact LeO.none _
   | refine LeO.ite ?_ ?_
   | refine LeO.bind ?_ (fun _=>?_)
theorem narcissusref02_Regs.mono : ∀ a0 k,LeO (narcissusref02_Regs.f k a0) (narcissusref02_Regs.f (k+1) a0):=by
 intro a0 k
 have ih0:=narcissusref02_Regs.mono_l k
 unfold narcissusref02_Regs.f
 repeat' first
   | (with_reducible exact ih0 _ _ _)
   | (with_reducible exact LeO.refl _)
   | (with_reducible exact LeO.none _)
   | (with_reducible refine LeO.ite ?_ ?_)
   | (with_reducible refine LeO.bind ?_ (fun _=>?_))
   | exact ih0 _ _ _
   | exact LeO.none _
   | refine LeO.ite ?_ ?_
   | refine LeO.bind ?_ (fun _=>?_)
set_option maxHeartbeats 8000000 in
set_option maxRecDepth 100000 in
theorem narcissusref02_Regs.calls (k:Nat) (A0:Option Addr) (c0:Nat) (l0:List (S42)) (r:Int) (w:World) (hr0:Kd.C k42 w A0 l0.length l0) (hc0:l0.length≤c0) (h:narcissusref02_Regs.f k l0=some r) :
  Calls Tryz.prog 26 #[.slice A0 l0.length c0] w fun e w'=>e = .returned (.int .i64 r)∧Below w.heap.size w w':=by
 have HR0:=Aside0.mk hr0
 have HC0:=Aside0.mk hc0
 clear hr0 hc0;have HB:=Aside0.mk (Below.refl w.heap.size w)
 have H:(narcissusref02_Regs.l0 k l0 1 0)=some r:=h
 clear h;have H':=Aside0.mk H
 clear H;go_enter Tryz.func26,Tryz.ntmps26
 go_wp2
 repeat (go_quiet (fail);try go_wp2)
 go_loopg [3,4] k (fun kq v3 v4 w' => ∃ (x3_1:Int) (x4_1:Int),v3 = .int .i64 x3_1∧v4 = .int .i64 x4_1∧Aside0 (narcissusref02_Regs.l0 kq l0 x3_1 x4_1=some r)∧Aside0 (kq≤k)∧Aside0 (Below w.heap.size w w'))
 case atStart=>exact ⟨(1),(0),(by first|rfl|(simp;done)|(simp [*];done)),(by first|rfl|(simp;done)|(simp [*];done)),H',⟨Nat.le_refl _⟩,⟨by repeat (first|(with_reducible first|exact HB.out|apply below_alloc|apply pw_below_drewN|apply below_drew1)|exact HB.out)⟩⟩
 case round =>
  clear H';obtain ⟨x3_1,x4_1,rfl,rfl,HA,HK1,HB⟩:=hrel
  cases gk with
  | zero=>exact absurd HA.out (by simp [narcissusref02_Regs.l0])
  | succ k1 =>
   have H:=HA.out
   clear HA;simp only [narcissusref02_Regs.l0] at H
   by_cases c2:x4_1<(l0.length:Int)
   ·rw [if_pos c2] at H
    have c2b0:decide (x4_1<(l0.length:Int))=true:=decide_eq_true c2
    clear c2;by_cases c3:0≤x4_1
    ·rw [if_pos c3] at H
     have c3b0:decide (0≤x4_1)=true:=decide_eq_true c3
     clear c3;obtain ⟨ji4,hji4⟩ : ∃ j_:Int,(mx x3_1 (wrap64 (((rd_T42 l0 x4_1).f1)+1)))=j_:=⟨_,rfl⟩
     replace H:(if ((rd_T42 l0 x4_1).f0)=5 then (narcissusref02_Regs.l0 k1 l0 ji4 (wrap64 (x4_1+1))) else (narcissusref02_Regs.l0 k1 l0 (mx (mx (ji4) (wrap64 (((rd_T42 l0 x4_1).f2)+1))) (wrap64 (((rd_T42 l0 x4_1).f3)+1))) (wrap64 (x4_1+1))))=some r:=by first|(rw [hji4] at H;exact H)|(simp only [hji4] at H ⊢;exact H)
     have hji4_:(if x3_1<(wrap64 (((rd_T42 l0 x4_1).f1)+1)) then (wrap64 (((rd_T42 l0 x4_1).f1)+1)) else x3_1)=ji4:=hji4
     by_cases c5:((rd_T42 l0 x4_1).f0)=5
     ·rw [if_pos c5] at H
      have c5b0:(((rd_T42 l0 x4_1).f0) == 5)=true:=beq_iff_eq.mpr c5
      have c5b1:(((rd_T42 l0 x4_1).f0) != 5)=false:=bne_eq_false_iff_eq.mpr c5
      clear c5;have H':=Aside0.mk H
      clear H;have p1:0≤(x4_1:Int):=of_decide_eq_true (by first|(with_reducible assumption)|assumption)
      have q1:x4_1<(l0.length:Int):=of_decide_eq_true (by first|(with_reducible assumption)|assumption)
      obtain ⟨ad1,e1,hx1_0,hx1_1,hx1_2,hx1_3,hx1_4⟩:=at_T42 HR0.out x4_1 p1 q1
      cases e1
      replace hx1_0:=(HB.out.cell (World.block_lt_of_cell? w _ hx1_0)).trans hx1_0
      replace hx1_1:=(HB.out.cell (World.block_lt_of_cell? w _ hx1_1)).trans hx1_1
      replace hx1_2:=(HB.out.cell (World.block_lt_of_cell? w _ hx1_2)).trans hx1_2
      replace hx1_3:=(HB.out.cell (World.block_lt_of_cell? w _ hx1_3)).trans hx1_3
      replace hx1_4:=(HB.out.cell (World.block_lt_of_cell? w _ hx1_4)).trans hx1_4
      replace p1:=eq_true p1;replace q1:=eq_true q1;have p2:0≤(x4_1:Int):=of_decide_eq_true (by first|(with_reducible assumption)|assumption)
      have q2:x4_1<(l0.length:Int):=of_decide_eq_true (by first|(with_reducible assumption)|assumption)
      obtain ⟨ad2,e2,hx2_0,hx2_1,hx2_2,hx2_3,hx2_4⟩:=at_T42 HR0.out x4_1 p2 q2
      obtain rfl:ad1=ad2:=(by injection e2)
      replace hx2_0:=(HB.out.cell (World.block_lt_of_cell? w _ hx2_0)).trans hx2_0
      replace hx2_1:=(HB.out.cell (World.block_lt_of_cell? w _ hx2_1)).trans hx2_1
      replace hx2_2:=(HB.out.cell (World.block_lt_of_cell? w _ hx2_2)).trans hx2_2
      replace hx2_3:=(HB.out.cell (World.block_lt_of_cell? w _ hx2_3)).trans hx2_3
      replace hx2_4:=(HB.out.cell (World.block_lt_of_cell? w _ hx2_4)).trans hx2_4
      replace p2:=eq_true p2;replace q2:=eq_true q2;go_wp2
      repeat (go_quiet (fail);try go_wp2)
      go_roundg k1
      case measure=>have:=HK1.out;omega
      case rel=>exact ⟨(ji4),(wrap64 (x4_1+1)),(by first|rfl|(simp;done)|(simp only [← hji4]<;>(first|rfl|simp))|(simp [*];done)),(by first|rfl|(simp;done)|(simp [*];done)),H',⟨by have:=HK1.out;omega⟩,⟨by repeat (first|(with_reducible first|exact HB.out|apply below_alloc|apply pw_below_drewN|apply below_drew1)|exact HB.out)⟩⟩
     ·rw [if_neg c5] at H
      have c5b0:(((rd_T42 l0 x4_1).f0) == 5)=false:=beq_eq_false_iff_ne.mpr c5
      have c5b1:(((rd_T42 l0 x4_1).f0) != 5)=true:=bne_iff_ne.mpr c5
      obtain ⟨ji6,hji6⟩ : ∃ j_:Int,(mx (ji4) (wrap64 (((rd_T42 l0 x4_1).f2)+1)))=j_:=⟨_,rfl⟩
      replace H:(narcissusref02_Regs.l0 k1 l0 (mx (ji6) (wrap64 (((rd_T42 l0 x4_1).f3)+1))) (wrap64 (x4_1+1)))=some r:=by first|(rw [hji6] at H;exact H)|(simp only [hji6] at H ⊢;exact H)
      have hji6_:(if (ji4)<(wrap64 (((rd_T42 l0 x4_1).f2)+1)) then (wrap64 (((rd_T42 l0 x4_1).f2)+1)) else (ji4))=ji6:=hji6
      obtain ⟨ji7,hji7⟩ : ∃ j_:Int,(mx (ji6) (wrap64 (((rd_T42 l0 x4_1).f3)+1)))=j_:=⟨_,rfl⟩
      replace H:(narcissusref02_Regs.l0 k1 l0 ji7 (wrap64 (x4_1+1)))=some r:=by first|(rw [hji7] at H;exact H)|(simp only [hji7] at H ⊢;exact H)
      have hji7_:(if (ji6)<(wrap64 (((rd_T42 l0 x4_1).f3)+1)) then (wrap64 (((rd_T42 l0 x4_1).f3)+1)) else (ji6))=ji7:=hji7
      have H':=Aside0.mk H
      clear H;have p1:0≤(x4_1:Int):=of_decide_eq_true (by first|(with_reducible assumption)|assumption)
      have q1:x4_1<(l0.length:Int):=of_decide_eq_true (by first|(with_reducible assumption)|assumption)
      obtain ⟨ad1,e1,hx1_0,hx1_1,hx1_2,hx1_3,hx1_4⟩:=at_T42 HR0.out x4_1 p1 q1
      cases e1
      replace hx1_0:=(HB.out.cell (World.block_lt_of_cell? w _ hx1_0)).trans hx1_0
      replace hx1_1:=(HB.out.cell (World.block_lt_of_cell? w _ hx1_1)).trans hx1_1
      replace hx1_2:=(HB.out.cell (World.block_lt_of_cell? w _ hx1_2)).trans hx1_2
      replace hx1_3:=(HB.out.cell (World.block_lt_of_cell? w _ hx1_3)).trans hx1_3
      replace hx1_4:=(HB.out.cell (World.block_lt_of_cell? w _ hx1_4)).trans hx1_4
      replace p1:=eq_true p1;replace q1:=eq_true q1;have p2:0≤(x4_1:Int):=of_decide_eq_true (by first|(with_reducible assumption)|assumption)
      have q2:x4_1<(l0.length:Int):=of_decide_eq_true (by first|(with_reducible assumption)|assumption)
      obtain ⟨ad2,e2,hx2_0,hx2_1,hx2_2,hx2_3,hx2_4⟩:=at_T42 HR0.out x4_1 p2 q2
      obtain rfl:ad1=ad2:=(by injection e2)
      replace hx2_0:=(HB.out.cell (World.block_lt_of_cell? w _ hx2_0)).trans hx2_0
      replace hx2_1:=(HB.out.cell (World.block_lt_of_cell? w _ hx2_1)).trans hx2_1
      replace hx2_2:=(HB.out.cell (World.block_lt_of_cell? w _ hx2_2)).trans hx2_2
      replace hx2_3:=(HB.out.cell (World.block_lt_of_cell? w _ hx2_3)).trans hx2_3
      replace hx2_4:=(HB.out.cell (World.block_lt_of_cell? w _ hx2_4)).trans hx2_4
      replace p2:=eq_true p2;replace q2:=eq_true q2;have p3:0≤(x4_1:Int):=of_decide_eq_true (by first|(with_reducible assumption)|assumption)
      have q3:x4_1<(l0.length:Int):=of_decide_eq_true (by first|(with_reducible assumption)|assumption)
      obtain ⟨ad3,e3,hx3_0,hx3_1,hx3_2,hx3_3,hx3_4⟩:=at_T42 HR0.out x4_1 p3 q3
      obtain rfl:ad1=ad3:=(by injection e3)
      replace hx3_0:=(HB.out.cell (World.block_lt_of_cell? w _ hx3_0)).trans hx3_0
      replace hx3_1:=(HB.out.cell (World.block_lt_of_cell? w _ hx3_1)).trans hx3_1
      replace hx3_2:=(HB.out.cell (World.block_lt_of_cell? w _ hx3_2)).trans hx3_2
      replace hx3_3:=(HB.out.cell (World.block_lt_of_cell? w _ hx3_3)).trans hx3_3
      replace hx3_4:=(HB.out.cell (World.block_lt_of_cell? w _ hx3_4)).trans hx3_4
      replace p3:=eq_true p3;replace q3:=eq_true q3;have p4:0≤(x4_1:Int):=of_decide_eq_true (by first|(with_reducible assumption)|assumption)
      have q4:x4_1<(l0.length:Int):=of_decide_eq_true (by first|(with_reducible assumption)|assumption)
      obtain ⟨ad4,e4,hx4_0,hx4_1,hx4_2,hx4_3,hx4_4⟩:=at_T42 HR0.out x4_1 p4 q4
      obtain rfl:ad1=ad4:=(by injection e4)
      replace hx4_0:=(HB.out.cell (World.block_lt_of_cell? w _ hx4_0)).trans hx4_0
      replace hx4_1:=(HB.out.cell (World.block_lt_of_cell? w _ hx4_1)).trans hx4_1
      replace hx4_2:=(HB.out.cell (World.block_lt_of_cell? w _ hx4_2)).trans hx4_2
      replace hx4_3:=(HB.out.cell (World.block_lt_of_cell? w _ hx4_3)).trans hx4_3
      replace hx4_4:=(HB.out.cell (World.block_lt_of_cell? w _ hx4_4)).trans hx4_4
      replace p4:=eq_true p4;replace q4:=eq_true q4;go_wp2
      repeat (go_quiet (fail);try go_wp2)
      go_roundg k1
      case measure=>have:=HK1.out;omega
      case rel=>exact ⟨(ji7),(wrap64 (x4_1+1)),(by first|rfl|(simp;done)|(simp only [← hji7]<;>(first|rfl|simp))|(simp [*];done)),(by first|rfl|(simp;done)|(simp [*];done)),H',⟨by have:=HK1.out;omega⟩,⟨by repeat (first|(with_reducible first|exact HB.out|apply below_alloc|apply pw_below_drewN|apply below_drew1)|exact HB.out)⟩⟩
    ·rw [if_neg c3] at H
     exact absurd H (by simp)
   ·rw [if_neg c2] at H
    have c2b0:decide (x4_1<(l0.length:Int))=false:=decide_eq_false c2
    clear c2;obtain rfl:=Option.some.inj H
    go_wp2
    repeat (go_quiet (fail);try go_wp2)
    go_ret
    exact ⟨by first|rfl|(simp [errW_none,errW_some]<;>rfl)|(simp [*,errW_none,errW_some]<;>rfl),by repeat (first|(with_reducible first|exact HB.out|apply below_alloc|apply pw_below_drewN|apply below_drew1)|exact HB.out)⟩
end
end Go.Proofs.YtfckjfoalpkpjaaGreatDoor.C
section
namespace Go.Proofs.YtfckjfoalpkpjaaGreatDoor.Plain
open Go.Proofs.YtfckjfoalpkpjaaGreatDoor.C
open Go.RowKit Go.Proofs.YtfckjfoalpkpjaaGreatDoorW.PrintWords Go.Proofs.YtfckjfoalpkpjaaGreatDoorW.PrintLast Go.Proofs.YtfckjfoalpkpjaaGreatDoorW.PrintMore
theorem right_reg {x:Ins} {i n:Int} (h:Right x i n):Reg x.f1:=by
  unfold Right at h
  rcases h with h|h|h|h
  · exact h.2.1
  · exact h.2.1
  · exact h.2.1
  · exact h.2.1
theorem right_regs {x:Ins} {i n:Int} (h:Right x i n) (h5:x.f0 ≠ 5):Reg x.f2∧Reg x.f3:=by
  have z : ∀ {a:Int},a=0→Reg a:=fun e=>by rw [e];exact ⟨by decide,by decide⟩
  unfold Right at h
  rcases h with h|h|h|h
  · exact ⟨z h.2.2.1,z h.2.2.2.1⟩
  · exact ⟨h.2.2.1,z h.2.2.2.1⟩
  · exact ⟨h.2.2.1,h.2.2.2.1⟩
  · exact absurd h.1 h5
theorem digit_bytes (n:Nat) (h:n<10):strOfNums [(wrap64 (48+(n:Int))) % 256]=bs [UInt8.ofNat (48+n)]:=by
  apply eq_bs
  rw [bl_nums,wrap_small (by omega) (by omega)]
  show [UInt8.ofNat (((48+(n:Int)) % 256).toNat)]=_
  congr 2
  omega
theorem decimal_nat (n:Nat):n≤1000000 → ∀ k,n<k→narcissusref02_Decimal.f k (n:Int)=some (bs (Lib.decDigits n)):=by
  induction n using Nat.strongRecOn with
  | _ n ih =>
    intro hn k hk
    obtain ⟨k,rfl⟩ : ∃ m,k=m+1:=⟨k - 1,by omega⟩
    rw [narcissusref02_Decimal.f,if_neg (by omega)]
    by_cases h:n<10
    · rw [if_pos (by omega),digit_bytes n h,Lib.decDigits_one h]
    · have e1:wrap64 (Int.tdiv (n:Int) 10)=((n / 10:Nat):Int):=by
        rw [Int.tdiv_eq_ediv_of_nonneg (by omega)]
        exact wrap_small (by omega) (by omega)
      have e2:Int.tmod (n:Int) 10=((n % 10:Nat):Int):=by
        rw [Int.tmod_eq_emod_of_nonneg (by omega)]
        rfl
      have hd:Lib.decDigits n=Lib.decDigits (n / 10) ++ [UInt8.ofNat (48+n % 10)]:=by rw [Lib.decDigits,dif_neg h]
      have hz:(Lib.decDigits (n / 10)).length≤20:=by rw [Lib.decDigits_length];exact Lib.nDigits_le20 _ (by omega)
      rw [if_neg (by omega),e1,e2,ih (n / 10) (by omega) (by omega) k (by omega),Option.bind_some,ih (n % 10) (by omega) (by omega) k (by omega),Option.bind_some,Lib.decDigits_one (Nat.mod_lt _ (by decide)),bs_size,bs_size,if_pos (by simp;omega),bs_append,hd]
theorem decimal_tells (n:Int) (h0 : -1000000≤n) (h1:n≤1000000) (k:Nat) (hk:1000010≤k):narcissusref02_Decimal.f k n=some (bs (Lib.itoa n)):=by
  unfold Lib.itoa
  by_cases hn:n<0
  · obtain ⟨k,rfl⟩ : ∃ m,k=m+1:=⟨k - 1,by omega⟩
    have hz:(Lib.decDigits n.natAbs).length≤20:=by rw [Lib.decDigits_length];exact Lib.nDigits_le20 _ (by omega)
    rw [narcissusref02_Decimal.f,if_pos hn,if_pos hn,wrap_small (by omega) (by omega),show -n=((n.natAbs:Nat):Int) from by omega,decimal_nat n.natAbs (by omega) k (by omega),Option.bind_some,bs_size,if_pos (by omega),show (⟨#[45]⟩:ByteArray)=bs [45] from rfl,bs_append]
    rfl
  · rw [if_neg hn]
    have:=decimal_nat n.toNat (by omega) k (by omega)
    rw [show ((n.toNat:Nat):Int)=n from by omega] at this
    exact this
theorem small64 {n:Int} (h0 : -1000000≤n) (h1:n≤1000000):In64 n:=⟨by omega,by omega⟩
theorem refTextOf_tells {x:Ins} (h:Nice x) (k:Nat) (hk:1000010≤k):narcissusref02_TextOf.f k x.f0 x.f1 x.f2 x.f3 x.f4=some (bs (textOf x)):=by
  have hop:=item_op h
  have ht:=tnice_of_nice h
  rw [textOf_parts]
  obtain ⟨ha0,ha1,h⟩:=h
  have la:=(itoa_tells x.f1 (small64 (by omega) ha1)).2
  unfold narcissusref02_TextOf.f headL tailL
  rw [op_word,if_pos hop,decimal_tells x.f1 (by omega) ha1 k hk,Option.bind_some,bs_size,if_pos (by omega),bs_bl' (rdOf ByteArray.empty wordNames x.f0),lit32]
  by_cases h0:x.f0=0
  · have hz:x.f4.size≤2000000:=by
      rcases h with h|h|h|h
      · exact h.2.2.2.2
      · omega
      · omega
      · omega
    rw [if_pos h0,if_pos h0,if_pos (by omega),bs_bl' x.f4]
    simp only [bs_append,bl_bs]
    congr 2
    unfold nameOf
    simp
  rw [if_neg h0,if_neg h0]
  by_cases h2:x.f0=2
  · rcases h with h|⟨_,hb0,hb1,hc0,hc1,_⟩|h|h
    · omega
    · have lb:=(itoa_tells x.f2 (small64 (by omega) hb1)).2
      have lc:=(itoa_tells x.f3 (small64 (by omega) hc1)).2
      rw [if_pos h2,if_pos h2,decimal_tells x.f2 (by omega) hb1 k hk,Option.bind_some,decimal_tells x.f3 (by omega) hc1 k hk,Option.bind_some,bs_size,bs_size,if_pos (by omega)]
      simp only [bs_append]
      congr 2
      unfold nameOf
      simp
    · omega
    · omega
  · have hb : -1000000≤x.f2∧x.f2≤1000000:=by
      rcases h with h|h|h|h
      · omega
      · omega
      · exact ⟨h.2.1,h.2.2.1⟩
      · exact ⟨by omega,h.2.2.1⟩
    have lb:=(itoa_tells x.f2 (small64 hb.1 hb.2)).2
    rw [if_neg h2,if_neg h2,decimal_tells x.f2 hb.1 hb.2 k hk,Option.bind_some,bs_size,if_pos (by omega)]
    simp only [bs_append]
    congr 2
    unfold nameOf
    simp
theorem textOf_length {x:Ins} (h:TNice x) (hz:x.f4.size≤2000000):(textOf x).length≤2000200:=by
  rw [textOf_parts,List.length_append]
  have a:=(head_tells h).2
  have b:=(tail_tells h hz).2
  omega
theorem refText_l (p:List Ins) (hn : ∀ x ∈ p,Nice x∧x.f4.size≤2000000) (hp:p.length≤4000) : ∀ (d k i:Nat) (xs:List Int),p.length - i=d→1≤i→i≤p.length→d+1000020<k→xs.length+d * 3000000≤100000000000 →
    ∃ r,narcissusref02_Text.l0 k p xs (i:Int)=some r∧bl r=xs.map (fun n=>UInt8.ofNat n.toNat) ++ sepd (p.drop i)
  | d,k,i,xs,hd,h1,hi,hk,hx=>by
    obtain ⟨k,rfl⟩ : ∃ m,k=m+1:=⟨k - 1,by omega⟩
    by_cases hlt:i<p.length
    · obtain ⟨hx1,hx2⟩:=hn p[i] (List.getElem_mem hlt)
      have hdrop:p.drop i=p[i] :: p.drop (i+1):=List.drop_eq_getElem_cons hlt
      have hlen:=textOf_length (tnice_of_nice hx1) hx2
      have hd2:d=(p.length - (i+1))+1:=by omega
      rw [hd2] at hx
      have hsz:(⟨#[59,32]⟩:ByteArray).size=2:=rfl
      rw [narcissusref02_Text.l0,if_pos (by omega),if_pos (by omega),if_pos (by omega),Option.bind_some,if_pos (by omega),rd_at p i hlt,refTextOf_tells hx1 k (by omega),Option.bind_some,bs_size,if_pos (by rw [List.length_append,bytesOf_length,hsz];omega),wrap_small (by omega) (by omega),show (i:Int)+1=((i+1:Nat):Int) from rfl]
      obtain ⟨r,e,hr⟩:=refText_l p hn hp (p.length - (i+1)) k (i+1) (xs ++ bytesOf (⟨#[59,32]⟩:ByteArray) ++ bytesOf (bs (textOf p[i]))) rfl (by omega) (by omega) (by omega) (by
        rw [List.length_append,List.length_append,bytesOf_length,bytesOf_length,hsz,bs_size]
        omega)
      refine ⟨r,e,?_⟩
      rw [hr,List.map_append,List.map_append,nums_bytes,nums_bytes,bl_bs,hdrop,sepd_cons,show bl (⟨#[59,32]⟩:ByteArray) = [59,32] from rfl]
      simp
    · rw [narcissusref02_Text.l0,if_neg (by omega),List.drop_eq_nil_of_le (by omega)]
      exact ⟨_,rfl,by rw [bl_nums];simp [sepd]⟩
  termination_by d=>d
theorem refText_yes {p:List Ins} {k:Nat} (hk:2000000≤k) (h:OKP p):narcissusref02_Text.f k p=some (bs (textL p)):=by
  have h4:=h.1
  obtain ⟨k,rfl⟩ : ∃ m,k=m+1:=⟨k - 1,by omega⟩
  unfold narcissusref02_Text.f
  match p,h,h4 with
  | [],h,h4 =>
    rw [narcissusref02_Text.l0,if_neg (by simp)]
    rfl
  | x :: p,h,h4 =>
    have hn : ∀ y ∈ x :: p,Nice y∧y.f4.size≤2000000:=fun y hy=>⟨okp_nice h y hy,(okp_text h y hy).2⟩
    obtain ⟨hx1,hx2⟩:=hn x (by simp)
    have hlen:=textOf_length (tnice_of_nice hx1) hx2
    have h2:=rd_at (x :: p) 0 (by simp)
    rw [show ((0:Nat):Int)=0 from rfl,List.getElem_cons_zero] at h2
    simp only [List.length_cons] at h4
    rw [narcissusref02_Text.l0,if_pos (by simp),if_neg (by decide),if_pos (by decide),h2,refTextOf_tells hx1 k (by omega),Option.bind_some,bs_size,if_pos (by simp;omega),wrap_small (by omega) (by omega),show (0:Int)+1=((1:Nat):Int) from rfl,List.nil_append]
    obtain ⟨r,e,hr⟩:=refText_l (x :: p) hn (by simp;omega) p.length k 1 (bytesOf (bs (textOf x))) (by simp) (by omega) (by simp) (by omega) (by rw [bytesOf_length,bs_size];omega)
    rw [e]
    congr 1
    apply eq_bs
    rw [hr,nums_bytes,bl_bs,textL_cons]
    rfl
end Go.Proofs.YtfckjfoalpkpjaaGreatDoor.Plain
end
