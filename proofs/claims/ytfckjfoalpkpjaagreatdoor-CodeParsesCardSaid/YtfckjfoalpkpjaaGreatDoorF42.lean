import Derived.Test.YtfckjfoalpkpjaaGreatDoorT0
import Derived.Test.YtfckjfoalpkpjaaGreatDoorH0
namespace Go.Proofs.YtfckjfoalpkpjaaGreatDoor.C
open Go.RowKit Go.Proofs.YtfckjfoalpkpjaaGreatDoorW.PrintWords Go.Proofs.YtfckjfoalpkpjaaGreatDoorW.PrintLast Go.Proofs.YtfckjfoalpkpjaaGreatDoorW.PrintMore
attribute [local go_sem] max2_int min2_int max_two min_two max_three min_three max_four min_four
def code_number.f (a0:Int):Option (ByteArray):=(strings_Repeat.f (⟨#[49,48]⟩:ByteArray) a0).bind fun t1=>(if t1.size+1≤9223372036854775807 then (some (t1 ++ (⟨#[48]⟩:ByteArray))) else (none))
set_option maxHeartbeats 8000000 in
set_option maxRecDepth 100000 in
theorem code_number.calls (a0:Int) (r:ByteArray) (w:World) (h:code_number.f a0=some r) :
  Calls Tryz.prog 42 #[.int .i64 a0] w fun e w'=>e = .returned (.string r)∧Below w.heap.size w w':=by
 have HB:=Aside0.mk (Below.refl w.heap.size w)
 have H:((strings_Repeat.f (⟨#[49,48]⟩:ByteArray) a0).bind fun t1=>(if t1.size+1≤9223372036854775807 then (some (t1 ++ (⟨#[48]⟩:ByteArray))) else (none)))=some r:=h
 clear h;replace H:=Option.bind_eq_some_iff.mp H
 obtain ⟨t1,A20,H⟩:=H
 replace H:(if t1.size+1≤9223372036854775807 then (some (t1 ++ (⟨#[48]⟩:ByteArray))) else (none))=some r:=H
 have A2:=Aside0.mk A20
 clear A20;by_cases c3:t1.size+1≤9223372036854775807
 ·rw [if_pos c3] at H
  have c3b0:=eq_true c3
  have c3b1:decide (t1.size+1≤9223372036854775807)=true:=decide_eq_true c3
  try have c3b2:(9223372036854775807<t1.size+1)=False:=eq_false (Nat.not_lt.2 c3)
  obtain rfl:=Option.some.inj H
  go_enter Tryz.func42,Tryz.ntmps42
  go_wp2_with (first|((with_reducible refine gate_callee (f:=74) rfl ?_);refine goesL_ (some 4) rfl rfl Tryz.func74 (by kernel_rfl) rfl #[.string (⟨#[49,48]⟩:ByteArray),.int .i64 a0] rfl (by (try simp only [List.map_toArray,List.map_cons,List.map_nil]);first|done|rfl) ?_;(with_reducible refine (strings_Repeat.calls (⟨#[49,48]⟩:ByteArray) a0 t1 _ A2.out).mono ?_);rintro e w4 ⟨rfl,hb⟩;refine ⟨_,rfl,?_⟩;have n0_:=Aside0.mk (below_step (by repeat (first|(with_reducible first|exact HB.out|apply below_alloc|apply pw_below_drewN|apply below_drew1)|exact HB.out)) hb);clear HB;have HB:=n0_;clear n0_;(try clear hb);(try clear hb2);(try clear hk);(try clear hi)))
  go_ret
  exact ⟨by first|rfl|(simp [errW_none,errW_some]<;>rfl)|(simp [*,errW_none,errW_some]<;>rfl),by repeat (first|(with_reducible first|exact HB.out|apply below_alloc|apply pw_below_drewN|apply below_drew1)|exact HB.out)⟩
 ·rw [if_neg c3] at H
  exact absurd H (by simp)
end Go.Proofs.YtfckjfoalpkpjaaGreatDoor.C
