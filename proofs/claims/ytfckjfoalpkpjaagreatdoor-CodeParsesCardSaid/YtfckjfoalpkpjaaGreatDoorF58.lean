import Derived.Test.YtfckjfoalpkpjaaGreatDoorT0
import Derived.Test.YtfckjfoalpkpjaaGreatDoorF46
import Derived.Test.YtfckjfoalpkpjaaGreatDoorH0
namespace Go.Proofs.YtfckjfoalpkpjaaGreatDoor.C
open Go.RowKit Go.Proofs.YtfckjfoalpkpjaaGreatDoorW.PrintWords Go.Proofs.YtfckjfoalpkpjaaGreatDoorW.PrintLast Go.Proofs.YtfckjfoalpkpjaaGreatDoorW.PrintMore
attribute [local go_sem] max2_int min2_int max_two min_two max_three min_three max_four min_four
def tree_Value.f (a0:ByteArray):Option (Int × Int):=(tree_Valid.f a0).bind fun t1=>(if t1=true then ((strings_Repeat.f (⟨#[49,48]⟩:ByteArray) (wrap64 ((a0.size:Int) / 2))).bind fun t2=>(if t2.size+1≤9223372036854775807 then (if a0.toList=(t2 ++ (⟨#[48]⟩:ByteArray)).toList then (some (wrap64 ((a0.size:Int) / 2),0)) else (some (0,4))) else (none))) else (some (0,1)))
set_option maxHeartbeats 8000000 in
set_option maxRecDepth 100000 in
theorem tree_Value.calls (a0:ByteArray) (r1:Int) (r2:Int) (w:World) (h:tree_Value.f a0=some (r1,r2)) :
  Calls Tryz.prog 58 #[.string a0] w fun e w'=>e = .returned (.tuple #[.int .i64 r1,.int .i64 r2])∧Below w.heap.size w w':=by
 have HB:=Aside0.mk (Below.refl w.heap.size w)
 have H:((tree_Valid.f a0).bind fun t1=>(if t1=true then ((strings_Repeat.f (⟨#[49,48]⟩:ByteArray) (wrap64 ((a0.size:Int) / 2))).bind fun t2=>(if t2.size+1≤9223372036854775807 then (if a0.toList=(t2 ++ (⟨#[48]⟩:ByteArray)).toList then (some (wrap64 ((a0.size:Int) / 2),0)) else (some (0,4))) else (none))) else (some (0,1))))=some (r1,r2):=h
 clear h;replace H:=Option.bind_eq_some_iff.mp H
 obtain ⟨t1,A20,H⟩:=H
 replace H:(if t1=true then ((strings_Repeat.f (⟨#[49,48]⟩:ByteArray) (wrap64 ((a0.size:Int) / 2))).bind fun t2=>(if t2.size+1≤9223372036854775807 then (if a0.toList=(t2 ++ (⟨#[48]⟩:ByteArray)).toList then (some (wrap64 ((a0.size:Int) / 2),0)) else (some (0,4))) else (none))) else (some (0,1)))=some (r1,r2):=H
 have A2:=Aside0.mk A20
 clear A20;by_cases c3:t1=true
 ·subst c3
  have H1:((strings_Repeat.f (⟨#[49,48]⟩:ByteArray) (wrap64 ((a0.size:Int) / 2))).bind fun t2=>(if t2.size+1≤9223372036854775807 then (if a0.toList=(t2 ++ (⟨#[48]⟩:ByteArray)).toList then (some (wrap64 ((a0.size:Int) / 2),0)) else (some (0,4))) else (none)))=some (r1,r2):=by rw [if_pos rfl] at H;exact H
  clear H;have H:=H1
  clear H1;replace H:=Option.bind_eq_some_iff.mp H
  obtain ⟨t2,A40,H⟩:=H
  replace H:(if t2.size+1≤9223372036854775807 then (if a0.toList=(t2 ++ (⟨#[48]⟩:ByteArray)).toList then (some (wrap64 ((a0.size:Int) / 2),0)) else (some (0,4))) else (none))=some (r1,r2):=H
  have A4:=Aside0.mk A40
  clear A40;by_cases c5:t2.size+1≤9223372036854775807
  ·rw [if_pos c5] at H
   have c5b0:=eq_true c5
   have c5b1:decide (t2.size+1≤9223372036854775807)=true:=decide_eq_true c5
   try have c5b2:(9223372036854775807<t2.size+1)=False:=eq_false (Nat.not_lt.2 c5)
   by_cases c6:a0.toList=(t2 ++ (⟨#[48]⟩:ByteArray)).toList
   ·rw [if_pos c6] at H
    have c6b0:(a0.toList == (t2 ++ (⟨#[48]⟩:ByteArray)).toList)=true:=beq_iff_eq.mpr c6
    have c6b1:(a0.toList != (t2 ++ (⟨#[48]⟩:ByteArray)).toList)=false:=bne_eq_false_iff_eq.mpr c6
    clear c6;simp only [Option.some.injEq,Prod.mk.injEq] at H
    obtain ⟨rfl,rfl⟩:=H
    go_enter Tryz.func58,Tryz.ntmps58
    go_wp2_with (first|((with_reducible refine gate_callee (f:=46) rfl ?_);refine goesL_ (some 6) rfl rfl Tryz.func46 (by kernel_rfl) rfl #[.string a0] rfl (by (try simp only [List.map_toArray,List.map_cons,List.map_nil]);first|done|rfl) ?_;(with_reducible refine (tree_Valid.calls a0 true _ A2.out).mono ?_);rintro e w7 ⟨rfl,hb⟩;refine ⟨_,rfl,?_⟩;have n0_:=Aside0.mk (below_step (by repeat (first|(with_reducible first|exact HB.out|apply below_alloc|apply pw_below_drewN|apply below_drew1)|exact HB.out)) hb);clear HB;have HB:=n0_;clear n0_;(try clear hb);(try clear hb2);(try clear hk);(try clear hi))|((with_reducible refine gate_callee (f:=74) rfl ?_);refine goesL_ (some 13) rfl rfl Tryz.func74 (by kernel_rfl) rfl #[.string (⟨#[49,48]⟩:ByteArray),.int .i64 (wrap64 ((a0.size:Int) / 2))] rfl (by (try simp only [List.map_toArray,List.map_cons,List.map_nil]);first|done|rfl) ?_;(with_reducible refine (strings_Repeat.calls (⟨#[49,48]⟩:ByteArray) (wrap64 ((a0.size:Int) / 2)) t2 _ A4.out).mono ?_);rintro e w8 ⟨rfl,hb⟩;refine ⟨_,rfl,?_⟩;have n0_:=Aside0.mk (below_step (by repeat (first|(with_reducible first|exact HB.out|apply below_alloc|apply pw_below_drewN|apply below_drew1)|exact HB.out)) hb);clear HB;have HB:=n0_;clear n0_;(try clear hb);(try clear hb2);(try clear hk);(try clear hi)))
    go_ret2
    exact ⟨by first|rfl|(simp [errW_none,errW_some]<;>rfl)|(simp [*,errW_none,errW_some]<;>rfl),by repeat (first|(with_reducible first|exact HB.out|apply below_alloc|apply pw_below_drewN|apply below_drew1)|exact HB.out)⟩
   ·rw [if_neg c6] at H
    have c6b0:(a0.toList == (t2 ++ (⟨#[48]⟩:ByteArray)).toList)=false:=beq_eq_false_iff_ne.mpr c6
    have c6b1:(a0.toList != (t2 ++ (⟨#[48]⟩:ByteArray)).toList)=true:=bne_iff_ne.mpr c6
    simp only [Option.some.injEq,Prod.mk.injEq] at H
    obtain ⟨rfl,rfl⟩:=H
    go_enter Tryz.func58,Tryz.ntmps58
    go_wp2_with (first|((with_reducible refine gate_callee (f:=46) rfl ?_);refine goesL_ (some 6) rfl rfl Tryz.func46 (by kernel_rfl) rfl #[.string a0] rfl (by (try simp only [List.map_toArray,List.map_cons,List.map_nil]);first|done|rfl) ?_;(with_reducible refine (tree_Valid.calls a0 true _ A2.out).mono ?_);rintro e w9 ⟨rfl,hb⟩;refine ⟨_,rfl,?_⟩;have n0_:=Aside0.mk (below_step (by repeat (first|(with_reducible first|exact HB.out|apply below_alloc|apply pw_below_drewN|apply below_drew1)|exact HB.out)) hb);clear HB;have HB:=n0_;clear n0_;(try clear hb);(try clear hb2);(try clear hk);(try clear hi))|((with_reducible refine gate_callee (f:=74) rfl ?_);refine goesL_ (some 13) rfl rfl Tryz.func74 (by kernel_rfl) rfl #[.string (⟨#[49,48]⟩:ByteArray),.int .i64 (wrap64 ((a0.size:Int) / 2))] rfl (by (try simp only [List.map_toArray,List.map_cons,List.map_nil]);first|done|rfl) ?_;(with_reducible refine (strings_Repeat.calls (⟨#[49,48]⟩:ByteArray) (wrap64 ((a0.size:Int) / 2)) t2 _ A4.out).mono ?_);rintro e w10 ⟨rfl,hb⟩;refine ⟨_,rfl,?_⟩;have n0_:=Aside0.mk (below_step (by repeat (first|(with_reducible first|exact HB.out|apply below_alloc|apply pw_below_drewN|apply below_drew1)|exact HB.out)) hb);clear HB;have HB:=n0_;clear n0_;(try clear hb);(try clear hb2);(try clear hk);(try clear hi)))
    go_ret2
    exact ⟨by first|rfl|(simp [errW_none,errW_some]<;>rfl)|(simp [*,errW_none,errW_some]<;>rfl),by repeat (first|(with_reducible first|exact HB.out|apply below_alloc|apply pw_below_drewN|apply below_drew1)|exact HB.out)⟩
  ·rw [if_neg c5] at H
   exact absurd H (by simp)
 ·replace c3:=Bool.eq_false_iff.mpr c3
  subst c3;have H1:(some (0,1))=some (r1,r2):=by rw [if_neg (show ¬ (false=true) by decide)] at H;exact H
  clear H;have H:=H1
  clear H1;simp only [Option.some.injEq,Prod.mk.injEq] at H
  obtain ⟨rfl,rfl⟩:=H
  go_enter Tryz.func58,Tryz.ntmps58
  go_wp2_with (first|((with_reducible refine gate_callee (f:=46) rfl ?_);refine goesL_ (some 6) rfl rfl Tryz.func46 (by kernel_rfl) rfl #[.string a0] rfl (by (try simp only [List.map_toArray,List.map_cons,List.map_nil]);first|done|rfl) ?_;(with_reducible refine (tree_Valid.calls a0 false _ A2.out).mono ?_);rintro e w11 ⟨rfl,hb⟩;refine ⟨_,rfl,?_⟩;have n0_:=Aside0.mk (below_step (by repeat (first|(with_reducible first|exact HB.out|apply below_alloc|apply pw_below_drewN|apply below_drew1)|exact HB.out)) hb);clear HB;have HB:=n0_;clear n0_;(try clear hb);(try clear hb2);(try clear hk);(try clear hi)))
  go_ret2
  exact ⟨by first|rfl|(simp [errW_none,errW_some]<;>rfl)|(simp [*,errW_none,errW_some]<;>rfl),by repeat (first|(with_reducible first|exact HB.out|apply below_alloc|apply pw_below_drewN|apply below_drew1)|exact HB.out)⟩
end Go.Proofs.YtfckjfoalpkpjaaGreatDoor.C
