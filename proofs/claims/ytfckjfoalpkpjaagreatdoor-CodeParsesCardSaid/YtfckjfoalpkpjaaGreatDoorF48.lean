import Derived.Test.YtfckjfoalpkpjaaGreatDoorT0
import Derived.Test.YtfckjfoalpkpjaaGreatDoorH1
namespace Go.Proofs.YtfckjfoalpkpjaaGreatDoor.C
open Go.RowKit Go.Proofs.YtfckjfoalpkpjaaGreatDoorW.PrintWords Go.Proofs.YtfckjfoalpkpjaaGreatDoorW.PrintLast Go.Proofs.YtfckjfoalpkpjaaGreatDoorW.PrintMore
attribute [local go_sem] max2_int min2_int max_two min_two max_three min_three max_four min_four
def tree_parts.f (a0:ByteArray):Option (ByteArray × ByteArray):=if a0.toList=([48]:List UInt8) then (some (a0,a0)) else ((tree_end.f a0 1).bind fun bt1=>(if 1≤bt1.1 then (if bt1.1≤(a0.size:Int) then (if 0≤bt1.1 then (some (a0.extract 1 (bt1.1:Int).toNat,a0.extract (bt1.1:Int).toNat a0.size)) else (none)) else (none)) else (none)))
set_option maxHeartbeats 8000000 in
set_option maxRecDepth 100000 in
theorem tree_parts.calls (a0:ByteArray) (r1:ByteArray) (r2:ByteArray) (w:World) (h:tree_parts.f a0=some (r1,r2)) :
  Calls Tryz.prog 48 #[.string a0] w fun e w'=>e = .returned (.tuple #[.string r1,.string r2])∧Below w.heap.size w w':=by
 have HB:=Aside0.mk (Below.refl w.heap.size w)
 have H:(if a0.toList=([48]:List UInt8) then (some (a0,a0)) else ((tree_end.f a0 1).bind fun bt1=>(if 1≤bt1.1 then (if bt1.1≤(a0.size:Int) then (if 0≤bt1.1 then (some (a0.extract 1 (bt1.1:Int).toNat,a0.extract (bt1.1:Int).toNat a0.size)) else (none)) else (none)) else (none))))=some (r1,r2):=h
 clear h;by_cases c2:a0.toList=([48]:List UInt8)
 ·rw [if_pos c2] at H
  have c2b0:(a0.toList == ([48]:List UInt8))=true:=beq_iff_eq.mpr c2
  have c2b1:(a0.toList != ([48]:List UInt8))=false:=bne_eq_false_iff_eq.mpr c2
  clear c2;simp only [Option.some.injEq,Prod.mk.injEq] at H
  obtain ⟨rfl,rfl⟩:=H
  go_enter Tryz.func48,Tryz.ntmps48
  go_wp2
  repeat (go_quiet (fail);try go_wp2)
  go_ret2
  exact ⟨by first|rfl|(simp [errW_none,errW_some]<;>rfl)|(simp [*,errW_none,errW_some]<;>rfl),by repeat (first|(with_reducible first|exact HB.out|apply below_alloc|apply pw_below_drewN|apply below_drew1)|exact HB.out)⟩
 ·rw [if_neg c2] at H
  have c2b0:(a0.toList == ([48]:List UInt8))=false:=beq_eq_false_iff_ne.mpr c2
  have c2b1:(a0.toList != ([48]:List UInt8))=true:=bne_iff_ne.mpr c2
  replace H:=Option.bind_eq_some_iff.mp H
  obtain ⟨⟨t1,t2⟩,A30,H⟩:=H
  replace H:(if 1≤t1 then (if t1≤(a0.size:Int) then (if 0≤t1 then (some (a0.extract 1 (t1:Int).toNat,a0.extract (t1:Int).toNat a0.size)) else (none)) else (none)) else (none))=some (r1,r2):=H
  have A3:=Aside0.mk A30
  clear A30;by_cases c4:1≤t1
  ·rw [if_pos c4] at H
   have c4b0:=eq_true c4
   have c4b1:decide (1≤t1)=true:=decide_eq_true c4
   clear c4;by_cases c5:t1≤(a0.size:Int)
   ·rw [if_pos c5] at H
    have c5b0:=eq_true c5
    have c5b1:decide (t1≤(a0.size:Int))=true:=decide_eq_true c5
    clear c5;by_cases c6:0≤t1
    ·rw [if_pos c6] at H
     have c6b0:=eq_true c6
     have c6b1:decide (0≤t1)=true:=decide_eq_true c6
     clear c6;have c7b0:=eq_true (of_decide_eq_true (by first|(with_reducible assumption)|assumption):t1≤(a0.size:Int))
     simp only [Option.some.injEq,Prod.mk.injEq] at H
     obtain ⟨rfl,rfl⟩:=H
     go_enter Tryz.func48,Tryz.ntmps48
     go_wp2_with (first|(go_at_call 75;(with_reducible refine (tree_end.calls a0 1 t1 t2 _ A3.out).mono ?_);rintro e w8 ⟨rfl,hb⟩;have n0_:=Aside0.mk (below_step (by repeat (first|(with_reducible first|exact HB.out|apply below_alloc|apply pw_below_drewN|apply below_drew1)|exact HB.out)) hb);clear HB;have HB:=n0_;clear n0_;(try clear hb);(try clear hb2);(try clear hk);(try clear hi)))
     repeat (go_quiet (first|(go_at_call 75;(with_reducible refine (tree_end.calls a0 1 t1 t2 _ A3.out).mono ?_);rintro e w8 ⟨rfl,hb⟩;have n0_:=Aside0.mk (below_step (by repeat (first|(with_reducible first|exact HB.out|apply below_alloc|apply pw_below_drewN|apply below_drew1)|exact HB.out)) hb);clear HB;have HB:=n0_;clear n0_;(try clear hb);(try clear hb2);(try clear hk);(try clear hi)));try go_wp2_with (first|(go_at_call 75;(with_reducible refine (tree_end.calls a0 1 t1 t2 _ A3.out).mono ?_);rintro e w8 ⟨rfl,hb⟩;have n0_:=Aside0.mk (below_step (by repeat (first|(with_reducible first|exact HB.out|apply below_alloc|apply pw_below_drewN|apply below_drew1)|exact HB.out)) hb);clear HB;have HB:=n0_;clear n0_;(try clear hb);(try clear hb2);(try clear hk);(try clear hi))))
     go_ret2
     exact ⟨by first|rfl|(simp [errW_none,errW_some]<;>rfl)|(simp [*,errW_none,errW_some]<;>rfl),by repeat (first|(with_reducible first|exact HB.out|apply below_alloc|apply pw_below_drewN|apply below_drew1)|exact HB.out)⟩
    ·rw [if_neg c6] at H
     exact absurd H (by simp)
   ·rw [if_neg c5] at H
    exact absurd H (by simp)
  ·rw [if_neg c4] at H
   exact absurd H (by simp)
end Go.Proofs.YtfckjfoalpkpjaaGreatDoor.C
