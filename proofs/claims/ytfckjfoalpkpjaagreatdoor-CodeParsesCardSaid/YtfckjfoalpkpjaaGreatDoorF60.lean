import Derived.Test.YtfckjfoalpkpjaaGreatDoorT0
import Derived.Test.YtfckjfoalpkpjaaGreatDoorF27
import Derived.Test.YtfckjfoalpkpjaaGreatDoorF28
set_option linter.unusedSimpArgs false
set_option linter.unusedVariables false
namespace Go.Proofs.YtfckjfoalpkpjaaGreatDoor.C
open Go.RowKit Go.Proofs.YtfckjfoalpkpjaaGreatDoorW.PrintWords Go.Proofs.YtfckjfoalpkpjaaGreatDoorW.PrintLast Go.Proofs.YtfckjfoalpkpjaaGreatDoorW.PrintMore
attribute [local go_sem] max2_int min2_int max_two min_two max_three min_three max_four min_four
def IsS42 (w0 W:World) (g:Nat) (f0:Int) (f1:Int) (f2:Int) (f3:Int) (f4:ByteArray):Prop:=W.heap[g]? = some (.cells #[.int .i64 f0,.int .i64 f1,.int .i64 f2,.int .i64 f3,.string f4] 42 (0,0))∧w0.heap.size≤g
theorem IsS42.grown {w0 W:World} {g:Nat} {f0:Int} {f1:Int} {f2:Int} {f3:Int} {f4:ByteArray} {W1:World} {row:Option Nat} (h:IsS42 w0 W g f0 f1 f2 f3 f4) (hw:W.grownBy W1 row) (hne:some g ≠ row):IsS42 w0 W1 g f0 f1 f2 f3 f4:=by
 obtain ⟨hb,hg⟩:=h
 exact ⟨blk_grown hb hw hne,hg⟩
theorem IsS42.kept {w0 W:World} {g:Nat} {f0:Int} {f1:Int} {f2:Int} {f3:Int} {f4:ByteArray} {W1:World} {S:Nat→Prop} (h:IsS42 w0 W g f0 f1 f2 f3 f4) (hk:Kept W W1 S) (hne : ¬ S g):IsS42 w0 W1 g f0 f1 f2 f3 f4:=by
 obtain ⟨hb,hg⟩:=h
 exact ⟨blk_kept hb hk hne,hg⟩
theorem IsS42.below {w0 W:World} {g:Nat} {f0:Int} {f1:Int} {f2:Int} {f3:Int} {f4:ByteArray} {W1:World} (h:IsS42 w0 W g f0 f1 f2 f3 f4) (hw:Below W.heap.size W W1):IsS42 w0 W1 g f0 f1 f2 f3 f4:=h.grown (grown_of_below hw none) (by simp)
theorem IsS42.alloc {w0 W:World} {g:Nat} {f0:Int} {f1:Int} {f2:Int} {f3:Int} {f4:ByteArray} (h:IsS42 w0 W g f0 f1 f2 f3 f4) (o:Obj):IsS42 w0 (W.alloc o) g f0 f1 f2 f3 f4:=h.below (below_alloc (Below.refl _ _) o)
theorem IsS42.drewN {w0 W:World} {g:Nat} {f0:Int} {f1:Int} {f2:Int} {f3:Int} {f4:ByteArray} (h:IsS42 w0 W g f0 f1 f2 f3 f4) (m:Nat):IsS42 w0 (W.drewN m) g f0 f1 f2 f3 f4:=h
theorem IsS42.drew {w0 W:World} {g:Nat} {f0:Int} {f1:Int} {f2:Int} {f3:Int} {f4:ByteArray} (h:IsS42 w0 W g f0 f1 f2 f3 f4):IsS42 w0 W.drew g f0 f1 f2 f3 f4:=h
theorem IsS42.at_ {w0 W:World} {g:Nat} {f0:Int} {f1:Int} {f2:Int} {f3:Int} {f4:ByteArray} {w':World} {m:Nat} (hq:W.drewN m=w') (h:IsS42 w0 W g f0 f1 f2 f3 f4):IsS42 w0 w' g f0 f1 f2 f3 f4:=by subst hq;exact IsS42.drewN h m
theorem IsS42.apart {w0 W:World} {g:Nat} {f0:Int} {f1:Int} {f2:Int} {f3:Int} {f4:ByteArray} {α:Type} {d:Kd α} {e:Nat} {base:Nat} {ok:Nat→Prop} {v:Value} {xs:List α} (h:IsS42 w0 W g f0 f1 f2 f3 f4) (ho:d.R e W base ok v xs) (ht : ∀ q,q ∈ e :: d.E→q ≠ 42):d.R e W base (fun k=>ok k∧k ≠ g) v xs:=by
 obtain ⟨hb,hg⟩:=h
 exact Kd.R_types ho hb ht
theorem IsS42.own_ne {w0 W:World} {g:Nat} {f0:Int} {f1:Int} {f2:Int} {f3:Int} {f4:ByteArray} {α:Type} {d:Kd α} {e:Nat} {base:Nat} {ok:Nat→Prop} {v:Value} {xs:List α} (h:IsS42 w0 W g f0 f1 f2 f3 f4) (ho:d.R e W base ok v xs) (ht:e ≠ 42):some g ≠ v.ownBlock:=by
 obtain ⟨hb,hg⟩:=h
 exact Kd.R_ne ho hb ht
theorem IsS42.lt {w0 W:World} {g:Nat} {f0:Int} {f1:Int} {f2:Int} {f3:Int} {f4:ByteArray} (h:IsS42 w0 W g f0 f1 f2 f3 f4):g<W.heap.size:=by
 obtain ⟨hb,hg⟩:=h
 exact blk_lt hb
theorem IsS42.ge {w0 W:World} {g:Nat} {f0:Int} {f1:Int} {f2:Int} {f3:Int} {f4:ByteArray} (h:IsS42 w0 W g f0 f1 f2 f3 f4):w0.heap.size≤g:=by
 obtain ⟨hb,hg⟩:=h
 exact hg
theorem IsS42.far {w0 W:World} {g:Nat} {f0:Int} {f1:Int} {f2:Int} {f3:Int} {f4:ByteArray} {p:Addr} (h:IsS42 w0 W g f0 f1 f2 f3 f4) (hne:g ≠ p.block) (u:Value):IsS42 w0 (W.setCell p u) g f0 f1 f2 f3 f4:=by
 obtain ⟨hb,hg⟩:=h
 exact ⟨blk_far hb hne u,hg⟩
theorem cellS42_0 {W:World} {g:Nat} {f0:Int} {f1:Int} {f2:Int} {f3:Int} {f4:ByteArray} (h:W.heap[g]? = some (.cells #[.int .i64 f0,.int .i64 f1,.int .i64 f2,.int .i64 f3,.string f4] 42 (0,0))):W.cell? ⟨g,0,none⟩=some (.int .i64 f0):=(blk_cell h 0).trans rfl
theorem IsS42.set_0 {w0 W:World} {g:Nat} {f0:Int} {f1:Int} {f2:Int} {f3:Int} {f4:ByteArray} (h:IsS42 w0 W g f0 f1 f2 f3 f4) (x:Int):IsS42 w0 (W.setCell ⟨g,0,none⟩ (.int .i64 x)) g x f1 f2 f3 f4:=by
 obtain ⟨hb,hg⟩:=h
 exact ⟨by simpa using blk_set hb 0 (.int .i64 x),hg⟩
theorem cellS42_1 {W:World} {g:Nat} {f0:Int} {f1:Int} {f2:Int} {f3:Int} {f4:ByteArray} (h:W.heap[g]? = some (.cells #[.int .i64 f0,.int .i64 f1,.int .i64 f2,.int .i64 f3,.string f4] 42 (0,0))):W.cell? ⟨g,1,none⟩=some (.int .i64 f1):=(blk_cell h 1).trans rfl
theorem IsS42.set_1 {w0 W:World} {g:Nat} {f0:Int} {f1:Int} {f2:Int} {f3:Int} {f4:ByteArray} (h:IsS42 w0 W g f0 f1 f2 f3 f4) (x:Int):IsS42 w0 (W.setCell ⟨g,1,none⟩ (.int .i64 x)) g f0 x f2 f3 f4:=by
 obtain ⟨hb,hg⟩:=h
 exact ⟨by simpa using blk_set hb 1 (.int .i64 x),hg⟩
theorem cellS42_2 {W:World} {g:Nat} {f0:Int} {f1:Int} {f2:Int} {f3:Int} {f4:ByteArray} (h:W.heap[g]? = some (.cells #[.int .i64 f0,.int .i64 f1,.int .i64 f2,.int .i64 f3,.string f4] 42 (0,0))):W.cell? ⟨g,2,none⟩=some (.int .i64 f2):=(blk_cell h 2).trans rfl
theorem IsS42.set_2 {w0 W:World} {g:Nat} {f0:Int} {f1:Int} {f2:Int} {f3:Int} {f4:ByteArray} (h:IsS42 w0 W g f0 f1 f2 f3 f4) (x:Int):IsS42 w0 (W.setCell ⟨g,2,none⟩ (.int .i64 x)) g f0 f1 x f3 f4:=by
 obtain ⟨hb,hg⟩:=h
 exact ⟨by simpa using blk_set hb 2 (.int .i64 x),hg⟩
theorem cellS42_3 {W:World} {g:Nat} {f0:Int} {f1:Int} {f2:Int} {f3:Int} {f4:ByteArray} (h:W.heap[g]? = some (.cells #[.int .i64 f0,.int .i64 f1,.int .i64 f2,.int .i64 f3,.string f4] 42 (0,0))):W.cell? ⟨g,3,none⟩=some (.int .i64 f3):=(blk_cell h 3).trans rfl
theorem IsS42.set_3 {w0 W:World} {g:Nat} {f0:Int} {f1:Int} {f2:Int} {f3:Int} {f4:ByteArray} (h:IsS42 w0 W g f0 f1 f2 f3 f4) (x:Int):IsS42 w0 (W.setCell ⟨g,3,none⟩ (.int .i64 x)) g f0 f1 f2 x f4:=by
 obtain ⟨hb,hg⟩:=h
 exact ⟨by simpa using blk_set hb 3 (.int .i64 x),hg⟩
theorem cellS42_4 {W:World} {g:Nat} {f0:Int} {f1:Int} {f2:Int} {f3:Int} {f4:ByteArray} (h:W.heap[g]? = some (.cells #[.int .i64 f0,.int .i64 f1,.int .i64 f2,.int .i64 f3,.string f4] 42 (0,0))):W.cell? ⟨g,4,none⟩=some (.string f4):=(blk_cell h 4).trans rfl
theorem IsS42.set_4 {w0 W:World} {g:Nat} {f0:Int} {f1:Int} {f2:Int} {f3:Int} {f4:ByteArray} (h:IsS42 w0 W g f0 f1 f2 f3 f4) (x:ByteArray):IsS42 w0 (W.setCell ⟨g,4,none⟩ (.string x)) g f0 f1 f2 f3 x:=by
 obtain ⟨hb,hg⟩:=h
 exact ⟨by simpa using blk_set hb 4 (.string x),hg⟩
theorem IsS42.new (w0 W:World) (f0:Int) (f1:Int) (f2:Int) (f3:Int) (f4:ByteArray) (hB:Below w0.heap.size w0 W):IsS42 w0 (W.alloc (.cells #[.int .i64 f0,.int .i64 f1,.int .i64 f2,.int .i64 f3,.string f4] 42)) W.heap.size f0 f1 f2 f3 f4:=⟨by simpa using heap_alloc_new W _,hB.size⟩
def code_fields_2.f (s0_0:Int) (s0_1:Int) (s0_2:Int) (s0_3:Int) (s0_4:ByteArray) (a1:ByteArray):Option (Bool × Int × Int × Int × Int × ByteArray):=(code_pair.f a1).bind fun bt1=>((code_value.f bt1.1).bind fun bt4=>(if bt1.2.2=true then (some (bt4.2,s0_0,bt4.1,s0_2,s0_3,bt1.2.1)) else (some (false,s0_0,bt4.1,s0_2,s0_3,bt1.2.1))))
set_option maxHeartbeats 8000000 in
set_option maxRecDepth 100000 in
theorem code_fields_2.calls (g:Nat) (s0_0:Int) (s0_1:Int) (s0_2:Int) (s0_3:Int) (s0_4:ByteArray) (a1:ByteArray) (r1:Bool) (r2:Int) (r3:Int) (r4:Int) (r5:Int) (r6:ByteArray) (w0 w:World) (hI:IsS42 w0 w g s0_0 s0_1 s0_2 s0_3 s0_4) (hB:Below w0.heap.size w0 w) (h:code_fields_2.f s0_0 s0_1 s0_2 s0_3 s0_4 a1=some (r1,r2,r3,r4,r5,r6)) :
  Calls Tryz.prog 60 #[.pointer (some ⟨g,0,none⟩),.string a1] w fun e w'=>e = .returned (.bool r1)∧IsS42 w0 w' g r2 r3 r4 r5 r6∧Below w0.heap.size w0 w'∧KeepBut w w' g none:=by
 have HI0:=Aside0.mk hI
 have HK:=Aside0.mk (KeepBut.refl w g none)
 have HL:=Aside0.mk hB.size
 clear hI;have HW0:=Aside0.mk hB.size
 have HB:=Aside0.mk hB
 clear hB;have H:((code_pair.f a1).bind fun bt1=>((code_value.f bt1.1).bind fun bt4=>(if bt1.2.2=true then (some (bt4.2,s0_0,bt4.1,s0_2,s0_3,bt1.2.1)) else (some (false,s0_0,bt4.1,s0_2,s0_3,bt1.2.1)))))=some (r1,r2,r3,r4,r5,r6):=h
 clear h;replace H:=Option.bind_eq_some_iff.mp H
 obtain ⟨⟨t1,t2,t3⟩,A30,H⟩:=H
 replace H:((code_value.f t1).bind fun bt4=>(if t3=true then (some (bt4.2,s0_0,bt4.1,s0_2,s0_3,t2)) else (some (false,s0_0,bt4.1,s0_2,s0_3,t2))))=some (r1,r2,r3,r4,r5,r6):=H
 have A3:=Aside0.mk A30
 clear A30;replace H:=Option.bind_eq_some_iff.mp H
 obtain ⟨⟨t4,t5⟩,A40,H⟩:=H
 replace H:(if t3=true then (some (t5,s0_0,t4,s0_2,s0_3,t2)) else (some (false,s0_0,t4,s0_2,s0_3,t2)))=some (r1,r2,r3,r4,r5,r6):=H
 have A4:=Aside0.mk A40
 clear A40;by_cases c5:t3=true
 ·subst c5
  have H1:(some (t5,s0_0,t4,s0_2,s0_3,t2))=some (r1,r2,r3,r4,r5,r6):=by rw [if_pos rfl] at H;exact H
  clear H;have H:=H1
  clear H1;simp only [Option.some.injEq,Prod.mk.injEq] at H
  obtain ⟨rfl,rfl,rfl,rfl,rfl,rfl⟩:=H
  go_enter Tryz.func60,Tryz.ntmps60
  go_wp2_with (first|((with_reducible refine gate_callee (f:=27) rfl ?_);refine goesL_ (some 12) rfl rfl Tryz.func27 (by kernel_rfl) rfl #[.string a1] rfl (by (try simp only [List.map_toArray,List.map_cons,List.map_nil]);first|done|rfl) ?_;(with_reducible refine (code_pair.calls a1 t1 t2 true _ A3.out).mono ?_);rintro e w6 ⟨rfl,hb⟩;refine ⟨_,rfl,?_⟩;have n0_:=Aside0.mk (IsS42.below (by repeat (first|(with_reducible first|exact HI0.out|apply IsS42.alloc|apply IsS42.drewN|apply IsS42.drew|apply IsS42.set_0|apply IsS42.set_1|apply IsS42.set_2|apply IsS42.set_3|apply IsS42.set_4)|exact HI0.out)) hb);have n1_:=Aside0.mk (KeepBut.trans (by repeat (first|(with_reducible first|exact HK.out|apply KeepBut.set_|apply keep_drewN|apply keep_drew|apply keep_alloc)|exact HK.out)) (KeepBut.of_below hb g none) (.inl rfl));have n2_:=Aside0.mk (below_step (by repeat (first|(with_reducible first|exact HB.out|apply below_alloc|apply pw_below_drewN|apply below_drew1|refine below_set ?_ (IsS42.ge HI0.out))|exact HB.out)) hb);clear HI0;clear HK;clear HB;have HI0:=n0_;have HK:=n1_;have HB:=n2_;clear n0_ n1_ n2_;(try clear hb);(try clear hb2);(try clear hk);(try clear hi))|((with_reducible refine gate_callee (f:=28) rfl ?_);refine goesL_ (some 18) rfl rfl Tryz.func28 (by kernel_rfl) rfl #[.string t1] rfl (by (try simp only [List.map_toArray,List.map_cons,List.map_nil]);first|done|rfl) ?_;(with_reducible refine (code_value.calls t1 t4 t5 _ A4.out).mono ?_);rintro e w7 ⟨rfl,hb⟩;refine ⟨_,rfl,?_⟩;have n0_:=Aside0.mk (IsS42.below (by repeat (first|(with_reducible first|exact HI0.out|apply IsS42.alloc|apply IsS42.drewN|apply IsS42.drew|apply IsS42.set_0|apply IsS42.set_1|apply IsS42.set_2|apply IsS42.set_3|apply IsS42.set_4)|exact HI0.out)) hb);have n1_:=Aside0.mk (KeepBut.trans (by repeat (first|(with_reducible first|exact HK.out|apply KeepBut.set_|apply keep_drewN|apply keep_drew|apply keep_alloc)|exact HK.out)) (KeepBut.of_below hb g none) (.inl rfl));have n2_:=Aside0.mk (below_step (by repeat (first|(with_reducible first|exact HB.out|apply below_alloc|apply pw_below_drewN|apply below_drew1|refine below_set ?_ (IsS42.ge HI0.out))|exact HB.out)) hb);clear HI0;clear HK;clear HB;have HI0:=n0_;have HK:=n1_;have HB:=n2_;clear n0_ n1_ n2_;(try clear hb);(try clear hb2);(try clear hk);(try clear hi);obtain ⟨HGz8,hgz8⟩:=HI0.out;have hcz8_0:=cellS42_0 HGz8;have hcz8_1:=cellS42_1 HGz8;have hcz8_2:=cellS42_2 HGz8;have hcz8_3:=cellS42_3 HGz8;have hcz8_4:=cellS42_4 HGz8;have hfz8_0:=blk_frozen HGz8 0;have hfz8_1:=blk_frozen HGz8 1;have hfz8_2:=blk_frozen HGz8 2;have hfz8_3:=blk_frozen HGz8 3;have hfz8_4:=blk_frozen HGz8 4;clear HGz8 hgz8))
  go_ret
  exact ⟨by first|rfl|(simp [errW_none,errW_some]<;>rfl)|(simp [*,errW_none,errW_some]<;>rfl),by repeat (first|(with_reducible first|exact HI0.out|apply IsS42.alloc|apply IsS42.drewN|apply IsS42.drew|apply IsS42.set_0|apply IsS42.set_1|apply IsS42.set_2|apply IsS42.set_3|apply IsS42.set_4)|exact HI0.out),by repeat (first|(with_reducible first|exact HB.out|apply below_alloc|apply pw_below_drewN|apply below_drew1|refine below_set ?_ (IsS42.ge HI0.out))|exact HB.out),by repeat (first|(with_reducible first|exact HK.out|apply KeepBut.set_|apply keep_drewN|apply keep_drew|apply keep_alloc)|exact HK.out)⟩
 ·replace c5:=Bool.eq_false_iff.mpr c5
  subst c5;have H1:(some (false,s0_0,t4,s0_2,s0_3,t2))=some (r1,r2,r3,r4,r5,r6):=by rw [if_neg (show ¬ (false=true) by decide)] at H;exact H
  clear H;have H:=H1
  clear H1;simp only [Option.some.injEq,Prod.mk.injEq] at H
  obtain ⟨rfl,rfl,rfl,rfl,rfl,rfl⟩:=H
  go_enter Tryz.func60,Tryz.ntmps60
  go_wp2_with (first|((with_reducible refine gate_callee (f:=27) rfl ?_);refine goesL_ (some 12) rfl rfl Tryz.func27 (by kernel_rfl) rfl #[.string a1] rfl (by (try simp only [List.map_toArray,List.map_cons,List.map_nil]);first|done|rfl) ?_;(with_reducible refine (code_pair.calls a1 t1 t2 false _ A3.out).mono ?_);rintro e w9 ⟨rfl,hb⟩;refine ⟨_,rfl,?_⟩;have n0_:=Aside0.mk (IsS42.below (by repeat (first|(with_reducible first|exact HI0.out|apply IsS42.alloc|apply IsS42.drewN|apply IsS42.drew|apply IsS42.set_0|apply IsS42.set_1|apply IsS42.set_2|apply IsS42.set_3|apply IsS42.set_4)|exact HI0.out)) hb);have n1_:=Aside0.mk (KeepBut.trans (by repeat (first|(with_reducible first|exact HK.out|apply KeepBut.set_|apply keep_drewN|apply keep_drew|apply keep_alloc)|exact HK.out)) (KeepBut.of_below hb g none) (.inl rfl));have n2_:=Aside0.mk (below_step (by repeat (first|(with_reducible first|exact HB.out|apply below_alloc|apply pw_below_drewN|apply below_drew1|refine below_set ?_ (IsS42.ge HI0.out))|exact HB.out)) hb);clear HI0;clear HK;clear HB;have HI0:=n0_;have HK:=n1_;have HB:=n2_;clear n0_ n1_ n2_;(try clear hb);(try clear hb2);(try clear hk);(try clear hi))|((with_reducible refine gate_callee (f:=28) rfl ?_);refine goesL_ (some 18) rfl rfl Tryz.func28 (by kernel_rfl) rfl #[.string t1] rfl (by (try simp only [List.map_toArray,List.map_cons,List.map_nil]);first|done|rfl) ?_;(with_reducible refine (code_value.calls t1 t4 t5 _ A4.out).mono ?_);rintro e w10 ⟨rfl,hb⟩;refine ⟨_,rfl,?_⟩;have n0_:=Aside0.mk (IsS42.below (by repeat (first|(with_reducible first|exact HI0.out|apply IsS42.alloc|apply IsS42.drewN|apply IsS42.drew|apply IsS42.set_0|apply IsS42.set_1|apply IsS42.set_2|apply IsS42.set_3|apply IsS42.set_4)|exact HI0.out)) hb);have n1_:=Aside0.mk (KeepBut.trans (by repeat (first|(with_reducible first|exact HK.out|apply KeepBut.set_|apply keep_drewN|apply keep_drew|apply keep_alloc)|exact HK.out)) (KeepBut.of_below hb g none) (.inl rfl));have n2_:=Aside0.mk (below_step (by repeat (first|(with_reducible first|exact HB.out|apply below_alloc|apply pw_below_drewN|apply below_drew1|refine below_set ?_ (IsS42.ge HI0.out))|exact HB.out)) hb);clear HI0;clear HK;clear HB;have HI0:=n0_;have HK:=n1_;have HB:=n2_;clear n0_ n1_ n2_;(try clear hb);(try clear hb2);(try clear hk);(try clear hi);obtain ⟨HGz11,hgz11⟩:=HI0.out;have hcz11_0:=cellS42_0 HGz11;have hcz11_1:=cellS42_1 HGz11;have hcz11_2:=cellS42_2 HGz11;have hcz11_3:=cellS42_3 HGz11;have hcz11_4:=cellS42_4 HGz11;have hfz11_0:=blk_frozen HGz11 0;have hfz11_1:=blk_frozen HGz11 1;have hfz11_2:=blk_frozen HGz11 2;have hfz11_3:=blk_frozen HGz11 3;have hfz11_4:=blk_frozen HGz11 4;clear HGz11 hgz11))
  go_ret
  exact ⟨by first|rfl|(simp [errW_none,errW_some]<;>rfl)|(simp [*,errW_none,errW_some]<;>rfl),by repeat (first|(with_reducible first|exact HI0.out|apply IsS42.alloc|apply IsS42.drewN|apply IsS42.drew|apply IsS42.set_0|apply IsS42.set_1|apply IsS42.set_2|apply IsS42.set_3|apply IsS42.set_4)|exact HI0.out),by repeat (first|(with_reducible first|exact HB.out|apply below_alloc|apply pw_below_drewN|apply below_drew1|refine below_set ?_ (IsS42.ge HI0.out))|exact HB.out),by repeat (first|(with_reducible first|exact HK.out|apply KeepBut.set_|apply keep_drewN|apply keep_drew|apply keep_alloc)|exact HK.out)⟩
end Go.Proofs.YtfckjfoalpkpjaaGreatDoor.C
