/- For every string: Parse returns the program whose string the string is, as the reference says, or ErrParse. The row lists variables of Go's library with what the program's text lays in them (strconv's two errors and its table of powers of ten, math/bits' and utf8's tables); the card ties them. -/
import Derived.Test.YtfckjfoalpkpjaaGreatDoorT0
import Derived.Test.YtfckjfoalpkpjaaGreatDoorH0
import Derived.Test.YtfckjfoalpkpjaaGreatDoorYA
import Derived.Test.YtfckjfoalpkpjaaGreatDoorF12
import Derived.Test.YtfckjfoalpkpjaaGreatDoorYC
import Derived.Test.YtfckjfoalpkpjaaGreatDoorHB
set_option linter.unusedSimpArgs false
set_option linter.unusedVariables false
namespace Go.Proofs.YtfckjfoalpkpjaaGreatDoor.C
open Go.RowKit Go.Proofs.YtfckjfoalpkpjaaGreatDoorW.PrintWords Go.Proofs.YtfckjfoalpkpjaaGreatDoorW.PrintLast Go.Proofs.YtfckjfoalpkpjaaGreatDoorW.PrintMore
section
attribute [local go_sem] max2_int min2_int max_two min_two max_three min_three max_four min_four
def narcissuslaw02_CodeParses.f (k:Nat) (a0:ByteArray):Option (Bool):=(code_Parse.f k a0).bind fun bt1=>(if (a0.size:Int) > 4000000 then (if (bt1.1.length:Int)=0 then (if bt1.2=5 then ((narcissuslaw02_awake.f k).bind fun t5=>(some t5)) else (some false)) else (some false)) else ((narcissusref02_Parse.f k a0).bind fun bt6=>(if bt6.2=true then (if bt1.2=0 then ((narcissusref02_Same.f k bt1.1 bt6.1).bind fun t10=>(if t10=true then ((narcissuslaw02_awake.f k).bind fun t11=>(some t11)) else (some false))) else (some false)) else (if (bt1.1.length:Int)=0 then (if bt1.2=5 then ((narcissuslaw02_awake.f k).bind fun t12=>(some t12)) else (some false)) else (some false)))))
theorem narcissuslaw02_CodeParses.mono : ∀ a0 k,LeO (narcissuslaw02_CodeParses.f k a0) (narcissuslaw02_CodeParses.f (k+1) a0):=by
 intro a0 k
 unfold narcissuslaw02_CodeParses.f
 repeat' first
   | (with_reducible exact code_Parse.mono _ _)
   | (with_reducible exact narcissuslaw02_awake.mono _)
   | (with_reducible exact narcissusref02_Parse.mono _ _)
   | (with_reducible exact narcissusref02_Same.mono _ _ _)
   | (with_reducible exact LeO.refl _)
   | (with_reducible exact LeO.none _)
   | (with_reducible refine LeO.ite ?_ ?_)
   | (with_reducible refine LeO.bind ?_ (fun _=>?_))
   | exact code_Parse.mono _ _
   | exact narcissuslaw02_awake.mono _
   | exact narcissusref02_Parse.mono _ _
   | exact narcissusref02_Same.mono _ _ _
   | exact LeO.none _
   | refine LeO.ite ?_ ?_
   | refine LeO.bind ?_ (fun _=>?_)
set_option maxHeartbeats 8000000 in
set_option maxRecDepth 100000 in
theorem narcissuslaw02_CodeParses.calls (k:Nat) (a0:ByteArray) (r:Bool) (w:World) (hL:LaidW w) (h:narcissuslaw02_CodeParses.f k a0=some r) :
  Calls Tryz.prog 4 #[.string a0] w fun e w'=>e = .returned (.bool r)∧Below w.heap.size w w':=by
 have HLD:=Aside0.mk hL
 clear hL;have HB:=Aside0.mk (Below.refl w.heap.size w)
 have H:((code_Parse.f k a0).bind fun bt1=>(if (a0.size:Int) > 4000000 then (if (bt1.1.length:Int)=0 then (if bt1.2=5 then ((narcissuslaw02_awake.f k).bind fun t5=>(some t5)) else (some false)) else (some false)) else ((narcissusref02_Parse.f k a0).bind fun bt6=>(if bt6.2=true then (if bt1.2=0 then ((narcissusref02_Same.f k bt1.1 bt6.1).bind fun t10=>(if t10=true then ((narcissuslaw02_awake.f k).bind fun t11=>(some t11)) else (some false))) else (some false)) else (if (bt1.1.length:Int)=0 then (if bt1.2=5 then ((narcissuslaw02_awake.f k).bind fun t12=>(some t12)) else (some false)) else (some false))))))=some r:=h
 clear h;replace H:=Option.bind_eq_some_iff.mp H
 obtain ⟨⟨t1,t2⟩,A20,H⟩:=H
 replace H:(if (a0.size:Int) > 4000000 then (if (t1.length:Int)=0 then (if t2=5 then ((narcissuslaw02_awake.f k).bind fun t5=>(some t5)) else (some false)) else (some false)) else ((narcissusref02_Parse.f k a0).bind fun bt6=>(if bt6.2=true then (if t2=0 then ((narcissusref02_Same.f k t1 bt6.1).bind fun t10=>(if t10=true then ((narcissuslaw02_awake.f k).bind fun t11=>(some t11)) else (some false))) else (some false)) else (if (t1.length:Int)=0 then (if t2=5 then ((narcissuslaw02_awake.f k).bind fun t12=>(some t12)) else (some false)) else (some false)))))=some r:=H
 have A2:=Aside0.mk A20
 clear A20;by_cases c3:(a0.size:Int) > 4000000
 ·rw [if_pos c3] at H
  have c3b0:decide (4000000<(a0.size:Int))=true:=decide_eq_true c3
  have c3b1:decide (4000000<a0.size)=true:=decide_eq_true (by omega)
  clear c3;by_cases c4:(t1.length:Int)=0
  ·rw [if_pos c4] at H
   have c4b0:((t1.length:Int) == 0)=true:=beq_iff_eq.mpr c4
   have c4b1:((t1.length:Int) != 0)=false:=bne_eq_false_iff_eq.mpr c4
   clear c4;by_cases c5:t2=5
   ·rw [if_pos c5] at H
    have c5b0:(t2 == 5)=true:=beq_iff_eq.mpr c5
    have c5b1:(t2 != 5)=false:=bne_eq_false_iff_eq.mpr c5
    clear c5;replace H:=Option.bind_eq_some_iff.mp H
    obtain ⟨t5,A60,H⟩:=H
    replace H:(some t5)=some r:=H
    have A6:=Aside0.mk A60
    clear A60;obtain rfl:=Option.some.inj H
    go_enter Tryz.func4,Tryz.ntmps4
    go_wp2_with (first|((with_reducible refine gate_callee (f:=13) rfl ?_);refine goesL_ (some 9) rfl rfl Tryz.func13 (by kernel_rfl) rfl #[.string a0] rfl (by (try simp only [List.map_toArray,List.map_cons,List.map_nil]);first|done|rfl) ?_;(with_reducible refine (code_Parse.calls k a0 t1 t2 _ ?side1 A2.out).mono ?_);(case side1=>first|(refine LaidW.below HLD.out ?_;with_reducible exact HB.out)|(refine LaidW.below HLD.out ?_;with_reducible apply pw_below_drewN;with_reducible exact HB.out)|(refine LaidW.below HLD.out ?_;with_reducible apply below_alloc;with_reducible exact HB.out)|(refine LaidW.below HLD.out ?_;repeat (first|(with_reducible first|exact HB.out|apply below_alloc|apply pw_below_drewN|apply below_drew1)|exact HB.out);done)|exact HLD.out|(repeat (first|exact HLD.out|(with_reducible refine LaidW.drewN ?_ _)|(with_reducible refine LaidW.drew ?_)|(with_reducible refine LaidW.alloc ?_ _))));rintro e w7 ⟨v3,rfl,ho0,hb⟩;refine ⟨_,rfl,?_⟩;have n0_:=Aside0.mk (Kd.R_lower ho0 (below_size (by repeat (first|(with_reducible first|exact HB.out|apply below_alloc|apply pw_below_drewN|apply below_drew1)|exact HB.out))));have n1_:=Aside0.mk (below_step (by repeat (first|(with_reducible first|exact HB.out|apply below_alloc|apply pw_below_drewN|apply below_drew1)|exact HB.out)) hb);clear HB;have HO4:=n0_;have HB:=n1_;clear n0_ n1_;(try clear hb);(try clear hb2);(try clear hk);(try clear hi);(try clear ho0);obtain ⟨Ao8,co8,eo8⟩:=Kd.R_slice HO4.out;subst eo8)|(go_at_call 10;(with_reducible refine (narcissuslaw02_awake.calls k  t5 _ ?side1 A6.out).mono ?_);(case side1=>first|(refine LaidW.below HLD.out ?_;with_reducible exact HB.out)|(refine LaidW.below HLD.out ?_;with_reducible apply pw_below_drewN;with_reducible exact HB.out)|(refine LaidW.below HLD.out ?_;with_reducible apply below_alloc;with_reducible exact HB.out)|(refine LaidW.below HLD.out ?_;repeat (first|(with_reducible first|exact HB.out|apply below_alloc|apply pw_below_drewN|apply below_drew1)|exact HB.out);done)|exact HLD.out|(repeat (first|exact HLD.out|(with_reducible refine LaidW.drewN ?_ _)|(with_reducible refine LaidW.drew ?_)|(with_reducible refine LaidW.alloc ?_ _))));rintro e w9 ⟨rfl,hb⟩;have n0_:=Aside0.mk (Kd.R_below (by (with_reducible repeat (first|apply Kd.R_alloc|apply Kd.R_drewN|apply Kd.R_drew));exact HO4.out) hb);have n1_:=Aside0.mk (below_step (by repeat (first|(with_reducible first|exact HB.out|apply below_alloc|apply pw_below_drewN|apply below_drew1)|exact HB.out)) hb);clear HO4;clear HB;have HO4:=n0_;have HB:=n1_;clear n0_ n1_;(try clear hb);(try clear hb2);(try clear hk);(try clear hi)))
    go_ret
    exact ⟨by first|rfl|(simp [errW_none,errW_some]<;>rfl)|(simp [*,errW_none,errW_some]<;>rfl),by repeat (first|(with_reducible first|exact HB.out|apply below_alloc|apply pw_below_drewN|apply below_drew1)|exact HB.out)⟩
   ·rw [if_neg c5] at H
    have c5b0:(t2 == 5)=false:=beq_eq_false_iff_ne.mpr c5
    have c5b1:(t2 != 5)=true:=bne_iff_ne.mpr c5
    obtain rfl:=Option.some.inj H
    go_enter Tryz.func4,Tryz.ntmps4
    go_wp2_with (first|((with_reducible refine gate_callee (f:=13) rfl ?_);refine goesL_ (some 9) rfl rfl Tryz.func13 (by kernel_rfl) rfl #[.string a0] rfl (by (try simp only [List.map_toArray,List.map_cons,List.map_nil]);first|done|rfl) ?_;(with_reducible refine (code_Parse.calls k a0 t1 t2 _ ?side1 A2.out).mono ?_);(case side1=>first|(refine LaidW.below HLD.out ?_;with_reducible exact HB.out)|(refine LaidW.below HLD.out ?_;with_reducible apply pw_below_drewN;with_reducible exact HB.out)|(refine LaidW.below HLD.out ?_;with_reducible apply below_alloc;with_reducible exact HB.out)|(refine LaidW.below HLD.out ?_;repeat (first|(with_reducible first|exact HB.out|apply below_alloc|apply pw_below_drewN|apply below_drew1)|exact HB.out);done)|exact HLD.out|(repeat (first|exact HLD.out|(with_reducible refine LaidW.drewN ?_ _)|(with_reducible refine LaidW.drew ?_)|(with_reducible refine LaidW.alloc ?_ _))));rintro e w10 ⟨v3,rfl,ho0,hb⟩;refine ⟨_,rfl,?_⟩;have n0_:=Aside0.mk (Kd.R_lower ho0 (below_size (by repeat (first|(with_reducible first|exact HB.out|apply below_alloc|apply pw_below_drewN|apply below_drew1)|exact HB.out))));have n1_:=Aside0.mk (below_step (by repeat (first|(with_reducible first|exact HB.out|apply below_alloc|apply pw_below_drewN|apply below_drew1)|exact HB.out)) hb);clear HB;have HO4:=n0_;have HB:=n1_;clear n0_ n1_;(try clear hb);(try clear hb2);(try clear hk);(try clear hi);(try clear ho0);obtain ⟨Ao11,co11,eo11⟩:=Kd.R_slice HO4.out;subst eo11))
    go_ret
    exact ⟨by first|rfl|(simp [errW_none,errW_some]<;>rfl)|(simp [*,errW_none,errW_some]<;>rfl),by repeat (first|(with_reducible first|exact HB.out|apply below_alloc|apply pw_below_drewN|apply below_drew1)|exact HB.out)⟩
  ·rw [if_neg c4] at H
   have c4b0:((t1.length:Int) == 0)=false:=beq_eq_false_iff_ne.mpr c4
   have c4b1:((t1.length:Int) != 0)=true:=bne_iff_ne.mpr c4
   have c4b2 : ¬ (t1 = []):=fun h_=>c4 (by rw [h_];rfl)
   obtain rfl:=Option.some.inj H
   go_enter Tryz.func4,Tryz.ntmps4
   go_wp2_with (first|((with_reducible refine gate_callee (f:=13) rfl ?_);refine goesL_ (some 9) rfl rfl Tryz.func13 (by kernel_rfl) rfl #[.string a0] rfl (by (try simp only [List.map_toArray,List.map_cons,List.map_nil]);first|done|rfl) ?_;(with_reducible refine (code_Parse.calls k a0 t1 t2 _ ?side1 A2.out).mono ?_);(case side1=>first|(refine LaidW.below HLD.out ?_;with_reducible exact HB.out)|(refine LaidW.below HLD.out ?_;with_reducible apply pw_below_drewN;with_reducible exact HB.out)|(refine LaidW.below HLD.out ?_;with_reducible apply below_alloc;with_reducible exact HB.out)|(refine LaidW.below HLD.out ?_;repeat (first|(with_reducible first|exact HB.out|apply below_alloc|apply pw_below_drewN|apply below_drew1)|exact HB.out);done)|exact HLD.out|(repeat (first|exact HLD.out|(with_reducible refine LaidW.drewN ?_ _)|(with_reducible refine LaidW.drew ?_)|(with_reducible refine LaidW.alloc ?_ _))));rintro e w12 ⟨v3,rfl,ho0,hb⟩;refine ⟨_,rfl,?_⟩;have n0_:=Aside0.mk (Kd.R_lower ho0 (below_size (by repeat (first|(with_reducible first|exact HB.out|apply below_alloc|apply pw_below_drewN|apply below_drew1)|exact HB.out))));have n1_:=Aside0.mk (below_step (by repeat (first|(with_reducible first|exact HB.out|apply below_alloc|apply pw_below_drewN|apply below_drew1)|exact HB.out)) hb);clear HB;have HO4:=n0_;have HB:=n1_;clear n0_ n1_;(try clear hb);(try clear hb2);(try clear hk);(try clear hi);(try clear ho0);obtain ⟨Ao13,co13,eo13⟩:=Kd.R_slice HO4.out;subst eo13))
   go_ret
   exact ⟨by first|rfl|(simp [errW_none,errW_some]<;>rfl)|(simp [*,errW_none,errW_some]<;>rfl),by repeat (first|(with_reducible first|exact HB.out|apply below_alloc|apply pw_below_drewN|apply below_drew1)|exact HB.out)⟩
 ·rw [if_neg c3] at H
  have c3b0:decide (4000000<(a0.size:Int))=false:=decide_eq_false c3
  have c3b1:decide (4000000<a0.size)=false:=decide_eq_false (by omega)
  clear c3;replace H:=Option.bind_eq_some_iff.mp H
  obtain ⟨⟨t6,t7⟩,A140,H⟩:=H
  replace H:(if t7=true then (if t2=0 then ((narcissusref02_Same.f k t1 t6).bind fun t10=>(if t10=true then ((narcissuslaw02_awake.f k).bind fun t11=>(some t11)) else (some false))) else (some false)) else (if (t1.length:Int)=0 then (if t2=5 then ((narcissuslaw02_awake.f k).bind fun t12=>(some t12)) else (some false)) else (some false)))=some r:=H
  have A14:=Aside0.mk A140
  clear A140;by_cases c15:t7=true
  ·subst c15
   have H1:(if t2=0 then ((narcissusref02_Same.f k t1 t6).bind fun t10=>(if t10=true then ((narcissuslaw02_awake.f k).bind fun t11=>(some t11)) else (some false))) else (some false))=some r:=by rw [if_pos rfl] at H;exact H
   clear H;have H:=H1
   clear H1;by_cases c16:t2=0
   ·rw [if_pos c16] at H
    have c16b0:(t2 == 0)=true:=beq_iff_eq.mpr c16
    have c16b1:(t2 != 0)=false:=bne_eq_false_iff_eq.mpr c16
    clear c16;replace H:=Option.bind_eq_some_iff.mp H
    obtain ⟨t10,A170,H⟩:=H
    replace H:(if t10=true then ((narcissuslaw02_awake.f k).bind fun t11=>(some t11)) else (some false))=some r:=H
    have A17:=Aside0.mk A170
    clear A170;by_cases c18:t10=true
    ·subst c18
     have H1:((narcissuslaw02_awake.f k).bind fun t11=>(some t11))=some r:=by rw [if_pos rfl] at H;exact H
     clear H;have H:=H1
     clear H1;replace H:=Option.bind_eq_some_iff.mp H
     obtain ⟨t11,A190,H⟩:=H
     replace H:(some t11)=some r:=H
     have A19:=Aside0.mk A190
     clear A190;obtain rfl:=Option.some.inj H
     go_enter Tryz.func4,Tryz.ntmps4
     go_wp2_with (first|((with_reducible refine gate_callee (f:=13) rfl ?_);refine goesL_ (some 9) rfl rfl Tryz.func13 (by kernel_rfl) rfl #[.string a0] rfl (by (try simp only [List.map_toArray,List.map_cons,List.map_nil]);first|done|rfl) ?_;(with_reducible refine (code_Parse.calls k a0 t1 t2 _ ?side1 A2.out).mono ?_);(case side1=>first|(refine LaidW.below HLD.out ?_;with_reducible exact HB.out)|(refine LaidW.below HLD.out ?_;with_reducible apply pw_below_drewN;with_reducible exact HB.out)|(refine LaidW.below HLD.out ?_;with_reducible apply below_alloc;with_reducible exact HB.out)|(refine LaidW.below HLD.out ?_;repeat (first|(with_reducible first|exact HB.out|apply below_alloc|apply pw_below_drewN|apply below_drew1)|exact HB.out);done)|exact HLD.out|(repeat (first|exact HLD.out|(with_reducible refine LaidW.drewN ?_ _)|(with_reducible refine LaidW.drew ?_)|(with_reducible refine LaidW.alloc ?_ _))));rintro e w20 ⟨v3,rfl,ho0,hb⟩;refine ⟨_,rfl,?_⟩;have n0_:=Aside0.mk (Kd.R_lower ho0 (below_size (by repeat (first|(with_reducible first|exact HB.out|apply below_alloc|apply pw_below_drewN|apply below_drew1)|exact HB.out))));have n1_:=Aside0.mk (below_step (by repeat (first|(with_reducible first|exact HB.out|apply below_alloc|apply pw_below_drewN|apply below_drew1)|exact HB.out)) hb);clear HB;have HO4:=n0_;have HB:=n1_;clear n0_ n1_;(try clear hb);(try clear hb2);(try clear hk);(try clear hi);(try clear ho0))|((with_reducible refine gate_callee (f:=14) rfl ?_);refine goesL_ (some 27) rfl rfl Tryz.func14 (by kernel_rfl) rfl #[.string a0] rfl (by (try simp only [List.map_toArray,List.map_cons,List.map_nil]);first|done|rfl) ?_;(with_reducible refine (narcissusref02_Parse.calls k a0 t6 true _ A14.out).mono ?_);rintro e w21 ⟨v8,rfl,ho0,hb⟩;refine ⟨_,rfl,?_⟩;have n0_:=Aside0.mk (Kd.R_elder' (by (with_reducible repeat (first|apply Kd.R_alloc|apply Kd.R_drewN|apply Kd.R_drew));exact HO4.out) (Kd.R_base ho0) hb);have n1_:=Aside0.mk (Kd.R_lower (Kd.R_new' ho0 (Kd.R_lt (by (with_reducible repeat (first|apply Kd.R_alloc|apply Kd.R_drewN|apply Kd.R_drew));exact HO4.out))) (below_size (by repeat (first|(with_reducible first|exact HB.out|apply below_alloc|apply pw_below_drewN|apply below_drew1)|exact HB.out))));have n2_:=Aside0.mk (below_step (by repeat (first|(with_reducible first|exact HB.out|apply below_alloc|apply pw_below_drewN|apply below_drew1)|exact HB.out)) hb);clear HO4;clear HB;have HO4:=n0_;have HO9:=n1_;have HB:=n2_;clear n0_ n1_ n2_;(try clear hb);(try clear hb2);(try clear hk);(try clear hi);(try clear ho0);obtain ⟨Ao22,co22,eo22⟩:=Kd.R_slice HO4.out;subst eo22;obtain ⟨Ao23,co23,eo23⟩:=Kd.R_slice HO9.out;subst eo23)|(go_at_call 12;(with_reducible refine (narcissusref02_Same.calls k _ _ t1 _ _ t6 true _ ?side1 ?side2 ?side3 ?side4 A17.out).mono ?_);(case side1=>repeat (first|exact (Kd.R_reads' HO4.out).2.2|(with_reducible refine Kd.C_alloc ?_ _)|(with_reducible refine Kd.C_drewN ?_ _)|(with_reducible refine Kd.C_drew ?_)));(case side2=>exact (Kd.R_reads' HO4.out).2.1);(case side3=>repeat (first|exact (Kd.R_reads' HO9.out).2.2|(with_reducible refine Kd.C_alloc ?_ _)|(with_reducible refine Kd.C_drewN ?_ _)|(with_reducible refine Kd.C_drew ?_)));(case side4=>exact (Kd.R_reads' HO9.out).2.1);rintro e w' ⟨rfl,⟨nd,rfl⟩⟩)|(go_at_call 10;(with_reducible refine (narcissuslaw02_awake.calls k  t11 _ ?side1 A19.out).mono ?_);(case side1=>first|(refine LaidW.below HLD.out ?_;with_reducible exact HB.out)|(refine LaidW.below HLD.out ?_;with_reducible apply pw_below_drewN;with_reducible exact HB.out)|(refine LaidW.below HLD.out ?_;with_reducible apply below_alloc;with_reducible exact HB.out)|(refine LaidW.below HLD.out ?_;repeat (first|(with_reducible first|exact HB.out|apply below_alloc|apply pw_below_drewN|apply below_drew1)|exact HB.out);done)|exact HLD.out|(repeat (first|exact HLD.out|(with_reducible refine LaidW.drewN ?_ _)|(with_reducible refine LaidW.drew ?_)|(with_reducible refine LaidW.alloc ?_ _))));rintro e w24 ⟨rfl,hb⟩;have n0_:=Aside0.mk (Kd.R_below (by (with_reducible repeat (first|apply Kd.R_alloc|apply Kd.R_drewN|apply Kd.R_drew));exact HO4.out) hb);have n1_:=Aside0.mk (Kd.R_below (by (with_reducible repeat (first|apply Kd.R_alloc|apply Kd.R_drewN|apply Kd.R_drew));exact HO9.out) hb);have n2_:=Aside0.mk (below_step (by repeat (first|(with_reducible first|exact HB.out|apply below_alloc|apply pw_below_drewN|apply below_drew1)|exact HB.out)) hb);clear HO4;clear HO9;clear HB;have HO4:=n0_;have HO9:=n1_;have HB:=n2_;clear n0_ n1_ n2_;(try clear hb);(try clear hb2);(try clear hk);(try clear hi)))
     go_ret
     exact ⟨by first|rfl|(simp [errW_none,errW_some]<;>rfl)|(simp [*,errW_none,errW_some]<;>rfl),by repeat (first|(with_reducible first|exact HB.out|apply below_alloc|apply pw_below_drewN|apply below_drew1)|exact HB.out)⟩
    ·replace c18:=Bool.eq_false_iff.mpr c18
     subst c18;have H1:(some false)=some r:=by rw [if_neg (show ¬ (false=true) by decide)] at H;exact H
     clear H;have H:=H1
     clear H1;obtain rfl:=Option.some.inj H
     go_enter Tryz.func4,Tryz.ntmps4
     go_wp2_with (first|((with_reducible refine gate_callee (f:=13) rfl ?_);refine goesL_ (some 9) rfl rfl Tryz.func13 (by kernel_rfl) rfl #[.string a0] rfl (by (try simp only [List.map_toArray,List.map_cons,List.map_nil]);first|done|rfl) ?_;(with_reducible refine (code_Parse.calls k a0 t1 t2 _ ?side1 A2.out).mono ?_);(case side1=>first|(refine LaidW.below HLD.out ?_;with_reducible exact HB.out)|(refine LaidW.below HLD.out ?_;with_reducible apply pw_below_drewN;with_reducible exact HB.out)|(refine LaidW.below HLD.out ?_;with_reducible apply below_alloc;with_reducible exact HB.out)|(refine LaidW.below HLD.out ?_;repeat (first|(with_reducible first|exact HB.out|apply below_alloc|apply pw_below_drewN|apply below_drew1)|exact HB.out);done)|exact HLD.out|(repeat (first|exact HLD.out|(with_reducible refine LaidW.drewN ?_ _)|(with_reducible refine LaidW.drew ?_)|(with_reducible refine LaidW.alloc ?_ _))));rintro e w25 ⟨v3,rfl,ho0,hb⟩;refine ⟨_,rfl,?_⟩;have n0_:=Aside0.mk (Kd.R_lower ho0 (below_size (by repeat (first|(with_reducible first|exact HB.out|apply below_alloc|apply pw_below_drewN|apply below_drew1)|exact HB.out))));have n1_:=Aside0.mk (below_step (by repeat (first|(with_reducible first|exact HB.out|apply below_alloc|apply pw_below_drewN|apply below_drew1)|exact HB.out)) hb);clear HB;have HO4:=n0_;have HB:=n1_;clear n0_ n1_;(try clear hb);(try clear hb2);(try clear hk);(try clear hi);(try clear ho0))|((with_reducible refine gate_callee (f:=14) rfl ?_);refine goesL_ (some 27) rfl rfl Tryz.func14 (by kernel_rfl) rfl #[.string a0] rfl (by (try simp only [List.map_toArray,List.map_cons,List.map_nil]);first|done|rfl) ?_;(with_reducible refine (narcissusref02_Parse.calls k a0 t6 true _ A14.out).mono ?_);rintro e w26 ⟨v8,rfl,ho0,hb⟩;refine ⟨_,rfl,?_⟩;have n0_:=Aside0.mk (Kd.R_elder' (by (with_reducible repeat (first|apply Kd.R_alloc|apply Kd.R_drewN|apply Kd.R_drew));exact HO4.out) (Kd.R_base ho0) hb);have n1_:=Aside0.mk (Kd.R_lower (Kd.R_new' ho0 (Kd.R_lt (by (with_reducible repeat (first|apply Kd.R_alloc|apply Kd.R_drewN|apply Kd.R_drew));exact HO4.out))) (below_size (by repeat (first|(with_reducible first|exact HB.out|apply below_alloc|apply pw_below_drewN|apply below_drew1)|exact HB.out))));have n2_:=Aside0.mk (below_step (by repeat (first|(with_reducible first|exact HB.out|apply below_alloc|apply pw_below_drewN|apply below_drew1)|exact HB.out)) hb);clear HO4;clear HB;have HO4:=n0_;have HO9:=n1_;have HB:=n2_;clear n0_ n1_ n2_;(try clear hb);(try clear hb2);(try clear hk);(try clear hi);(try clear ho0);obtain ⟨Ao27,co27,eo27⟩:=Kd.R_slice HO4.out;subst eo27;obtain ⟨Ao28,co28,eo28⟩:=Kd.R_slice HO9.out;subst eo28)|(go_at_call 12;(with_reducible refine (narcissusref02_Same.calls k _ _ t1 _ _ t6 false _ ?side1 ?side2 ?side3 ?side4 A17.out).mono ?_);(case side1=>repeat (first|exact (Kd.R_reads' HO4.out).2.2|(with_reducible refine Kd.C_alloc ?_ _)|(with_reducible refine Kd.C_drewN ?_ _)|(with_reducible refine Kd.C_drew ?_)));(case side2=>exact (Kd.R_reads' HO4.out).2.1);(case side3=>repeat (first|exact (Kd.R_reads' HO9.out).2.2|(with_reducible refine Kd.C_alloc ?_ _)|(with_reducible refine Kd.C_drewN ?_ _)|(with_reducible refine Kd.C_drew ?_)));(case side4=>exact (Kd.R_reads' HO9.out).2.1);rintro e w' ⟨rfl,⟨nd,rfl⟩⟩))
     go_ret
     exact ⟨by first|rfl|(simp [errW_none,errW_some]<;>rfl)|(simp [*,errW_none,errW_some]<;>rfl),by repeat (first|(with_reducible first|exact HB.out|apply below_alloc|apply pw_below_drewN|apply below_drew1)|exact HB.out)⟩
   ·rw [if_neg c16] at H
    have c16b0:(t2 == 0)=false:=beq_eq_false_iff_ne.mpr c16
    have c16b1:(t2 != 0)=true:=bne_iff_ne.mpr c16
    obtain rfl:=Option.some.inj H
    go_enter Tryz.func4,Tryz.ntmps4
    go_wp2_with (first|((with_reducible refine gate_callee (f:=13) rfl ?_);refine goesL_ (some 9) rfl rfl Tryz.func13 (by kernel_rfl) rfl #[.string a0] rfl (by (try simp only [List.map_toArray,List.map_cons,List.map_nil]);first|done|rfl) ?_;(with_reducible refine (code_Parse.calls k a0 t1 t2 _ ?side1 A2.out).mono ?_);(case side1=>first|(refine LaidW.below HLD.out ?_;with_reducible exact HB.out)|(refine LaidW.below HLD.out ?_;with_reducible apply pw_below_drewN;with_reducible exact HB.out)|(refine LaidW.below HLD.out ?_;with_reducible apply below_alloc;with_reducible exact HB.out)|(refine LaidW.below HLD.out ?_;repeat (first|(with_reducible first|exact HB.out|apply below_alloc|apply pw_below_drewN|apply below_drew1)|exact HB.out);done)|exact HLD.out|(repeat (first|exact HLD.out|(with_reducible refine LaidW.drewN ?_ _)|(with_reducible refine LaidW.drew ?_)|(with_reducible refine LaidW.alloc ?_ _))));rintro e w29 ⟨v3,rfl,ho0,hb⟩;refine ⟨_,rfl,?_⟩;have n0_:=Aside0.mk (Kd.R_lower ho0 (below_size (by repeat (first|(with_reducible first|exact HB.out|apply below_alloc|apply pw_below_drewN|apply below_drew1)|exact HB.out))));have n1_:=Aside0.mk (below_step (by repeat (first|(with_reducible first|exact HB.out|apply below_alloc|apply pw_below_drewN|apply below_drew1)|exact HB.out)) hb);clear HB;have HO4:=n0_;have HB:=n1_;clear n0_ n1_;(try clear hb);(try clear hb2);(try clear hk);(try clear hi);(try clear ho0))|((with_reducible refine gate_callee (f:=14) rfl ?_);refine goesL_ (some 27) rfl rfl Tryz.func14 (by kernel_rfl) rfl #[.string a0] rfl (by (try simp only [List.map_toArray,List.map_cons,List.map_nil]);first|done|rfl) ?_;(with_reducible refine (narcissusref02_Parse.calls k a0 t6 true _ A14.out).mono ?_);rintro e w30 ⟨v8,rfl,ho0,hb⟩;refine ⟨_,rfl,?_⟩;have n0_:=Aside0.mk (Kd.R_elder' (by (with_reducible repeat (first|apply Kd.R_alloc|apply Kd.R_drewN|apply Kd.R_drew));exact HO4.out) (Kd.R_base ho0) hb);have n1_:=Aside0.mk (Kd.R_lower (Kd.R_new' ho0 (Kd.R_lt (by (with_reducible repeat (first|apply Kd.R_alloc|apply Kd.R_drewN|apply Kd.R_drew));exact HO4.out))) (below_size (by repeat (first|(with_reducible first|exact HB.out|apply below_alloc|apply pw_below_drewN|apply below_drew1)|exact HB.out))));have n2_:=Aside0.mk (below_step (by repeat (first|(with_reducible first|exact HB.out|apply below_alloc|apply pw_below_drewN|apply below_drew1)|exact HB.out)) hb);clear HO4;clear HB;have HO4:=n0_;have HO9:=n1_;have HB:=n2_;clear n0_ n1_ n2_;(try clear hb);(try clear hb2);(try clear hk);(try clear hi);(try clear ho0)))
    go_ret
    exact ⟨by first|rfl|(simp [errW_none,errW_some]<;>rfl)|(simp [*,errW_none,errW_some]<;>rfl),by repeat (first|(with_reducible first|exact HB.out|apply below_alloc|apply pw_below_drewN|apply below_drew1)|exact HB.out)⟩
  ·replace c15:=Bool.eq_false_iff.mpr c15
   subst c15;have H1:(if (t1.length:Int)=0 then (if t2=5 then ((narcissuslaw02_awake.f k).bind fun t12=>(some t12)) else (some false)) else (some false))=some r:=by rw [if_neg (show ¬ (false=true) by decide)] at H;exact H
   clear H;have H:=H1
   clear H1;by_cases c31:(t1.length:Int)=0
   ·rw [if_pos c31] at H
    have c31b0:((t1.length:Int) == 0)=true:=beq_iff_eq.mpr c31
    have c31b1:((t1.length:Int) != 0)=false:=bne_eq_false_iff_eq.mpr c31
    clear c31;by_cases c32:t2=5
    ·rw [if_pos c32] at H
     have c32b0:(t2 == 5)=true:=beq_iff_eq.mpr c32
     have c32b1:(t2 != 5)=false:=bne_eq_false_iff_eq.mpr c32
     clear c32;replace H:=Option.bind_eq_some_iff.mp H
     obtain ⟨t12,A330,H⟩:=H
     replace H:(some t12)=some r:=H
     have A33:=Aside0.mk A330
     clear A330;obtain rfl:=Option.some.inj H
     go_enter Tryz.func4,Tryz.ntmps4
     go_wp2_with (first|((with_reducible refine gate_callee (f:=13) rfl ?_);refine goesL_ (some 9) rfl rfl Tryz.func13 (by kernel_rfl) rfl #[.string a0] rfl (by (try simp only [List.map_toArray,List.map_cons,List.map_nil]);first|done|rfl) ?_;(with_reducible refine (code_Parse.calls k a0 t1 t2 _ ?side1 A2.out).mono ?_);(case side1=>first|(refine LaidW.below HLD.out ?_;with_reducible exact HB.out)|(refine LaidW.below HLD.out ?_;with_reducible apply pw_below_drewN;with_reducible exact HB.out)|(refine LaidW.below HLD.out ?_;with_reducible apply below_alloc;with_reducible exact HB.out)|(refine LaidW.below HLD.out ?_;repeat (first|(with_reducible first|exact HB.out|apply below_alloc|apply pw_below_drewN|apply below_drew1)|exact HB.out);done)|exact HLD.out|(repeat (first|exact HLD.out|(with_reducible refine LaidW.drewN ?_ _)|(with_reducible refine LaidW.drew ?_)|(with_reducible refine LaidW.alloc ?_ _))));rintro e w34 ⟨v3,rfl,ho0,hb⟩;refine ⟨_,rfl,?_⟩;have n0_:=Aside0.mk (Kd.R_lower ho0 (below_size (by repeat (first|(with_reducible first|exact HB.out|apply below_alloc|apply pw_below_drewN|apply below_drew1)|exact HB.out))));have n1_:=Aside0.mk (below_step (by repeat (first|(with_reducible first|exact HB.out|apply below_alloc|apply pw_below_drewN|apply below_drew1)|exact HB.out)) hb);clear HB;have HO4:=n0_;have HB:=n1_;clear n0_ n1_;(try clear hb);(try clear hb2);(try clear hk);(try clear hi);(try clear ho0))|((with_reducible refine gate_callee (f:=14) rfl ?_);refine goesL_ (some 27) rfl rfl Tryz.func14 (by kernel_rfl) rfl #[.string a0] rfl (by (try simp only [List.map_toArray,List.map_cons,List.map_nil]);first|done|rfl) ?_;(with_reducible refine (narcissusref02_Parse.calls k a0 t6 false _ A14.out).mono ?_);rintro e w35 ⟨v8,rfl,ho0,hb⟩;refine ⟨_,rfl,?_⟩;have n0_:=Aside0.mk (Kd.R_elder' (by (with_reducible repeat (first|apply Kd.R_alloc|apply Kd.R_drewN|apply Kd.R_drew));exact HO4.out) (Kd.R_base ho0) hb);have n1_:=Aside0.mk (Kd.R_lower (Kd.R_new' ho0 (Kd.R_lt (by (with_reducible repeat (first|apply Kd.R_alloc|apply Kd.R_drewN|apply Kd.R_drew));exact HO4.out))) (below_size (by repeat (first|(with_reducible first|exact HB.out|apply below_alloc|apply pw_below_drewN|apply below_drew1)|exact HB.out))));have n2_:=Aside0.mk (below_step (by repeat (first|(with_reducible first|exact HB.out|apply below_alloc|apply pw_below_drewN|apply below_drew1)|exact HB.out)) hb);clear HO4;clear HB;have HO4:=n0_;have HO9:=n1_;have HB:=n2_;clear n0_ n1_ n2_;(try clear hb);(try clear hb2);(try clear hk);(try clear hi);(try clear ho0);obtain ⟨Ao36,co36,eo36⟩:=Kd.R_slice HO4.out;subst eo36)|(go_at_call 10;(with_reducible refine (narcissuslaw02_awake.calls k  t12 _ ?side1 A33.out).mono ?_);(case side1=>first|(refine LaidW.below HLD.out ?_;with_reducible exact HB.out)|(refine LaidW.below HLD.out ?_;with_reducible apply pw_below_drewN;with_reducible exact HB.out)|(refine LaidW.below HLD.out ?_;with_reducible apply below_alloc;with_reducible exact HB.out)|(refine LaidW.below HLD.out ?_;repeat (first|(with_reducible first|exact HB.out|apply below_alloc|apply pw_below_drewN|apply below_drew1)|exact HB.out);done)|exact HLD.out|(repeat (first|exact HLD.out|(with_reducible refine LaidW.drewN ?_ _)|(with_reducible refine LaidW.drew ?_)|(with_reducible refine LaidW.alloc ?_ _))));rintro e w37 ⟨rfl,hb⟩;have n0_:=Aside0.mk (Kd.R_below (by (with_reducible repeat (first|apply Kd.R_alloc|apply Kd.R_drewN|apply Kd.R_drew));exact HO4.out) hb);have n1_:=Aside0.mk (Kd.R_below (by (with_reducible repeat (first|apply Kd.R_alloc|apply Kd.R_drewN|apply Kd.R_drew));exact HO9.out) hb);have n2_:=Aside0.mk (below_step (by repeat (first|(with_reducible first|exact HB.out|apply below_alloc|apply pw_below_drewN|apply below_drew1)|exact HB.out)) hb);clear HO4;clear HO9;clear HB;have HO4:=n0_;have HO9:=n1_;have HB:=n2_;clear n0_ n1_ n2_;(try clear hb);(try clear hb2);(try clear hk);(try clear hi)))
     go_ret
     exact ⟨by first|rfl|(simp [errW_none,errW_some]<;>rfl)|(simp [*,errW_none,errW_some]<;>rfl),by repeat (first|(with_reducible first|exact HB.out|apply below_alloc|apply pw_below_drewN|apply below_drew1)|exact HB.out)⟩
    ·rw [if_neg c32] at H
     have c32b0:(t2 == 5)=false:=beq_eq_false_iff_ne.mpr c32
     have c32b1:(t2 != 5)=true:=bne_iff_ne.mpr c32
     obtain rfl:=Option.some.inj H
     go_enter Tryz.func4,Tryz.ntmps4
     go_wp2_with (first|((with_reducible refine gate_callee (f:=13) rfl ?_);refine goesL_ (some 9) rfl rfl Tryz.func13 (by kernel_rfl) rfl #[.string a0] rfl (by (try simp only [List.map_toArray,List.map_cons,List.map_nil]);first|done|rfl) ?_;(with_reducible refine (code_Parse.calls k a0 t1 t2 _ ?side1 A2.out).mono ?_);(case side1=>first|(refine LaidW.below HLD.out ?_;with_reducible exact HB.out)|(refine LaidW.below HLD.out ?_;with_reducible apply pw_below_drewN;with_reducible exact HB.out)|(refine LaidW.below HLD.out ?_;with_reducible apply below_alloc;with_reducible exact HB.out)|(refine LaidW.below HLD.out ?_;repeat (first|(with_reducible first|exact HB.out|apply below_alloc|apply pw_below_drewN|apply below_drew1)|exact HB.out);done)|exact HLD.out|(repeat (first|exact HLD.out|(with_reducible refine LaidW.drewN ?_ _)|(with_reducible refine LaidW.drew ?_)|(with_reducible refine LaidW.alloc ?_ _))));rintro e w38 ⟨v3,rfl,ho0,hb⟩;refine ⟨_,rfl,?_⟩;have n0_:=Aside0.mk (Kd.R_lower ho0 (below_size (by repeat (first|(with_reducible first|exact HB.out|apply below_alloc|apply pw_below_drewN|apply below_drew1)|exact HB.out))));have n1_:=Aside0.mk (below_step (by repeat (first|(with_reducible first|exact HB.out|apply below_alloc|apply pw_below_drewN|apply below_drew1)|exact HB.out)) hb);clear HB;have HO4:=n0_;have HB:=n1_;clear n0_ n1_;(try clear hb);(try clear hb2);(try clear hk);(try clear hi);(try clear ho0))|((with_reducible refine gate_callee (f:=14) rfl ?_);refine goesL_ (some 27) rfl rfl Tryz.func14 (by kernel_rfl) rfl #[.string a0] rfl (by (try simp only [List.map_toArray,List.map_cons,List.map_nil]);first|done|rfl) ?_;(with_reducible refine (narcissusref02_Parse.calls k a0 t6 false _ A14.out).mono ?_);rintro e w39 ⟨v8,rfl,ho0,hb⟩;refine ⟨_,rfl,?_⟩;have n0_:=Aside0.mk (Kd.R_elder' (by (with_reducible repeat (first|apply Kd.R_alloc|apply Kd.R_drewN|apply Kd.R_drew));exact HO4.out) (Kd.R_base ho0) hb);have n1_:=Aside0.mk (Kd.R_lower (Kd.R_new' ho0 (Kd.R_lt (by (with_reducible repeat (first|apply Kd.R_alloc|apply Kd.R_drewN|apply Kd.R_drew));exact HO4.out))) (below_size (by repeat (first|(with_reducible first|exact HB.out|apply below_alloc|apply pw_below_drewN|apply below_drew1)|exact HB.out))));have n2_:=Aside0.mk (below_step (by repeat (first|(with_reducible first|exact HB.out|apply below_alloc|apply pw_below_drewN|apply below_drew1)|exact HB.out)) hb);clear HO4;clear HB;have HO4:=n0_;have HO9:=n1_;have HB:=n2_;clear n0_ n1_ n2_;(try clear hb);(try clear hb2);(try clear hk);(try clear hi);(try clear ho0);obtain ⟨Ao40,co40,eo40⟩:=Kd.R_slice HO4.out;subst eo40))
     go_ret
     exact ⟨by first|rfl|(simp [errW_none,errW_some]<;>rfl)|(simp [*,errW_none,errW_some]<;>rfl),by repeat (first|(with_reducible first|exact HB.out|apply below_alloc|apply pw_below_drewN|apply below_drew1)|exact HB.out)⟩
   ·rw [if_neg c31] at H
    have c31b0:((t1.length:Int) == 0)=false:=beq_eq_false_iff_ne.mpr c31
    have c31b1:((t1.length:Int) != 0)=true:=bne_iff_ne.mpr c31
    have c31b2 : ¬ (t1 = []):=fun h_=>c31 (by rw [h_];rfl)
    obtain rfl:=Option.some.inj H
    go_enter Tryz.func4,Tryz.ntmps4
    go_wp2_with (first|((with_reducible refine gate_callee (f:=13) rfl ?_);refine goesL_ (some 9) rfl rfl Tryz.func13 (by kernel_rfl) rfl #[.string a0] rfl (by (try simp only [List.map_toArray,List.map_cons,List.map_nil]);first|done|rfl) ?_;(with_reducible refine (code_Parse.calls k a0 t1 t2 _ ?side1 A2.out).mono ?_);(case side1=>first|(refine LaidW.below HLD.out ?_;with_reducible exact HB.out)|(refine LaidW.below HLD.out ?_;with_reducible apply pw_below_drewN;with_reducible exact HB.out)|(refine LaidW.below HLD.out ?_;with_reducible apply below_alloc;with_reducible exact HB.out)|(refine LaidW.below HLD.out ?_;repeat (first|(with_reducible first|exact HB.out|apply below_alloc|apply pw_below_drewN|apply below_drew1)|exact HB.out);done)|exact HLD.out|(repeat (first|exact HLD.out|(with_reducible refine LaidW.drewN ?_ _)|(with_reducible refine LaidW.drew ?_)|(with_reducible refine LaidW.alloc ?_ _))));rintro e w41 ⟨v3,rfl,ho0,hb⟩;refine ⟨_,rfl,?_⟩;have n0_:=Aside0.mk (Kd.R_lower ho0 (below_size (by repeat (first|(with_reducible first|exact HB.out|apply below_alloc|apply pw_below_drewN|apply below_drew1)|exact HB.out))));have n1_:=Aside0.mk (below_step (by repeat (first|(with_reducible first|exact HB.out|apply below_alloc|apply pw_below_drewN|apply below_drew1)|exact HB.out)) hb);clear HB;have HO4:=n0_;have HB:=n1_;clear n0_ n1_;(try clear hb);(try clear hb2);(try clear hk);(try clear hi);(try clear ho0))|((with_reducible refine gate_callee (f:=14) rfl ?_);refine goesL_ (some 27) rfl rfl Tryz.func14 (by kernel_rfl) rfl #[.string a0] rfl (by (try simp only [List.map_toArray,List.map_cons,List.map_nil]);first|done|rfl) ?_;(with_reducible refine (narcissusref02_Parse.calls k a0 t6 false _ A14.out).mono ?_);rintro e w42 ⟨v8,rfl,ho0,hb⟩;refine ⟨_,rfl,?_⟩;have n0_:=Aside0.mk (Kd.R_elder' (by (with_reducible repeat (first|apply Kd.R_alloc|apply Kd.R_drewN|apply Kd.R_drew));exact HO4.out) (Kd.R_base ho0) hb);have n1_:=Aside0.mk (Kd.R_lower (Kd.R_new' ho0 (Kd.R_lt (by (with_reducible repeat (first|apply Kd.R_alloc|apply Kd.R_drewN|apply Kd.R_drew));exact HO4.out))) (below_size (by repeat (first|(with_reducible first|exact HB.out|apply below_alloc|apply pw_below_drewN|apply below_drew1)|exact HB.out))));have n2_:=Aside0.mk (below_step (by repeat (first|(with_reducible first|exact HB.out|apply below_alloc|apply pw_below_drewN|apply below_drew1)|exact HB.out)) hb);clear HO4;clear HB;have HO4:=n0_;have HO9:=n1_;have HB:=n2_;clear n0_ n1_ n2_;(try clear hb);(try clear hb2);(try clear hk);(try clear hi);(try clear ho0);obtain ⟨Ao43,co43,eo43⟩:=Kd.R_slice HO4.out;subst eo43))
    go_ret
    exact ⟨by first|rfl|(simp [errW_none,errW_some]<;>rfl)|(simp [*,errW_none,errW_some]<;>rfl),by repeat (first|(with_reducible first|exact HB.out|apply below_alloc|apply pw_below_drewN|apply below_drew1)|exact HB.out)⟩
end
end Go.Proofs.YtfckjfoalpkpjaaGreatDoor.C
section
namespace Go.Proofs.YtfckjfoalpkpjaaGreatDoor.CodeParses
open Go.ChangeShapes Go.WideShapes Go.ChangeAt Go.RowKit Go.Proofs.YtfckjfoalpkpjaaGreatDoorW.PrintWords Go.Proofs.YtfckjfoalpkpjaaGreatDoorW.PrintMore Go.Proofs.YtfckjfoalpkpjaaGreatDoor.C Go.Proofs.YtfckjfoalpkpjaaGreatDoor.Plain Go.Proofs.YtfckjfoalpkpjaaGreatDoor.Card
open Go.ChangeMaps (open_string shut_string)
theorem law_at (s:ByteArray):narcissuslaw02_CodeParses.f 30000000 s=some true:=by
  unfold narcissuslaw02_CodeParses.f
  have haw:=awake_tells 30000000 (by omega)
  rcases parse_tells s 30000000 (by omega) with ⟨p,e,hp,ht,hz⟩|⟨e,hno⟩
  · obtain ⟨q,v,er,_,h2⟩:=refParse_tells s hz 30000000 (by omega)
    obtain ⟨rfl,rfl⟩:=h2 p hp ht
    rw [e,Option.bind_some,if_neg (by omega),er,Option.bind_some,if_pos rfl,if_pos rfl,same_yes q (by have:=hp.1;omega) 30000000 (by have:=hp.1;omega),Option.bind_some,if_pos rfl,haw]
    rfl
  · rw [e,Option.bind_some]
    by_cases hz:(s.size:Int) > 4000000
    · rw [if_pos hz]
      simp [haw]
    · obtain ⟨q,v,er,h1,_⟩:=refParse_tells s (by omega) 30000000 (by omega)
      have hf:v=false:=by
        cases v with
        | false=>rfl
        | true=>exact absurd (h1 rfl).2 (hno q (h1 rfl).1 (by omega))
      rw [if_neg hz,er,hf,Option.bind_some]
      simp [haw]
theorem plain_law (s:ByteArray) : ∃ k,narcissuslaw02_CodeParses.f k s=some true:=⟨_,law_at s⟩
set_option maxRecDepth 100000 in
theorem contract (H:Type) (enc:TypeId × Value→H) (W:World) (base:Nat) (args:Array Value) (ds gs:List (DataW H)) (before:List MemPlace)
    (hval0 : ∀ (j:Nat) t v,Tryz.f4.params[j]? = some t→args[j]? = some v→Value.okWide Tryz.prog W .any base t v)
    (hW:DataW.Whole enc Tryz.prog Tryz.f4.params.toList Rows.codeParsesSpec.vars false W args.toList ds gs before)
    (hsz0:(DataW.weightsEach Tryz.prog (Tryz.f4.params.toList ++ Rows.codeParsesSpec.plain.varTypes Tryz.prog) (ds ++ gs)).all (· ≤ reachBytes)=true) (hL:LaidW W) :
    Calls Tryz.prog 4 args W fun e W' => ∃ v,e = .returned v∧Rows.codeParsesSpec.post enc Tryz.prog Tryz.f4 false true false false W args v W':=by
  have hsz:(DataW.weightsEach Tryz.prog (Tryz.f4.params.toList ++ Rows.codeParsesSpec.plain.varTypes Tryz.prog) (ds ++ gs)).all (· ≤ reachBytes)=true:=hsz0
  have hval : ∀ (j:Nat) t v,Tryz.f4.params[j]? = some t→args[j]? = some v→Value.okWide Tryz.prog W .any base t v:=hval0
  have hW':=hW
  obtain ⟨p,q,hA0,hV,rfl,hfz,hnd⟩:=hW
  have hA:DataW.TrodAll enc Tryz.prog W 0 (fun _=>true) true Tryz.f4.params.toList args.toList ds p:=hA0
  rw [Tryz.params4] at hA hval hsz
  obtain ⟨v0,vs0,d0,ds0,p0,q0,hargs,rfl,rfl,h0,r0⟩:=trodAll_cons hA
  obtain ⟨rfl,rfl,rfl⟩:=trodAll_nil r0
  obtain rfl:args = #[v0]:=by cases args;simp_all
  obtain ⟨rfl,rfl⟩:=trodVars_none hV
  obtain ⟨a0,rfl,rfl,rfl,y0⟩:=open_string Tryz.underlying9 (hval 0 9 v0 rfl rfl) h0
  clear hA0 hval0 hsz0 hsz;obtain ⟨kk,hkk⟩:=plain_law a0
  refine (narcissuslaw02_CodeParses.calls kk a0 true W hL hkk).mono ?_
  rintro e W' ⟨rfl,bel⟩
  exact ⟨_,rfl,_,_,_,[],_,[],hW',trodAll_mk1 (shut_bool Tryz.underlying4 _),(trodAll_cons_mk (shut_string Tryz.underlying9 y0) trodAll_mk0),rfl,bel.frame _,fun h=>by cases h⟩
theorem reads (os:Os) {H:Type} (enc:TypeId × Value→H) : ∃ places,DataW.whole enc Tryz.prog ((laidWorld os).forCall (fun _ _=>0) ⟨#[],#[.string ByteArray.empty],[]⟩).memory Tryz.f4.params.toList Rows.codeParsesSpec.vars false (#[.string ByteArray.empty]:Array Value).toList 8=some ([.lit (.string [])],[],places) :=
  ⟨[],by kernel_rfl⟩
set_option maxRecDepth 100000 in
theorem lifted (os:Os) (started:os.Started) (H:Type) (enc:TypeId × Value→H) (F:Stop.Interp) :
    ReturnsInHanded {} Tryz.checked os 4 .any ((OpenSpec.ofChange Rows.codeParsesSpec).preRow enc Tryz.prog Tryz.f4 Rows.codeParsesRow.domain false Rows.codeParsesRow.laid) (((OpenSpec.ofChange Rows.codeParsesSpec).at F).post enc Tryz.prog Tryz.f4 false true false false):=by
  obtain ⟨places,hx⟩:=reads os enc
  have hok:Input.okWideB Tryz.checked.prog ((laidWorld os).forCall (fun _ _=>0) ⟨#[],#[.string ByteArray.empty],[]⟩) 4 ⟨#[],#[.string ByteArray.empty],[]⟩=true:=by kernel_rfl
  refine returnsInHanded_of_row (C:=Tryz.checked) (s:=OpenSpec.ofChange Rows.codeParsesSpec) own started (by kernel_rfl) Tryz.func4
    ⟨laidWorld os,fun _ _=>0,⟨#[],#[.string ByteArray.empty],[]⟩,World.laidAll_os _ _ _,World.shaped_of_ZipB (by kernel_rfl) (by kernel_rfl),(Input.okWide_of_okWideB (base:=0) hok).1,(Input.okWide_of_okWideB hok).2,
      OpenSpec.preRow_of_cond 8 hx (by kernel_rfl) (fun k hk=>by cases hk) (by kernel_rfl) (laid_met os _),by
        simp only [Assume.holds]
        exact ⟨by simp,by simp,fun _=>Modest.zero,by simp,by simp⟩⟩ ?_
  intro W base args ds gs before hval hW _ _ hsz hL hsh _
  exact contract H enc W base args ds gs before hval hW hsz (laidW_of hsh hL)
theorem said:Rows.CodeParsesSaid :=
  OpenClaim.holds_of_cond 4 Tryz.f4 rfl rfl rfl rfl rfl rfl rfl ⟨rfl,rfl,rfl,rfl,rfl⟩ rfl rfl rfl rfl rfl (by kernel_rfl) Tryz.func4 (by kernel_rfl)
    (of_decide_eq_true (by kernel_rfl)) (by unfold Func.isWrapper;first|(rw [if_pos (by decide +kernel)];kernel_rfl)|(rw [if_neg (by decide +kernel)];exact ⟨rfl,rfl⟩))
    (fun os started H enc _ F=>by rw [OpenClaim.pre_eq_preRow];exact lifted os started H enc F)
theorem plain_args (f:FuncId) (fn:Func) (hf:Tryz.pinned.checked.prog.funcNamed "narcissus/narcissuslaw02.CodeParses" = some f) (hfn:Tryz.pinned.checked.prog.funcs[f]? = some fn) :
    true=Tryz.pinned.checked.prog.looks [] ∧ ∀ (j:Nat) t,fn.params[j]? = some t→Tryz.pinned.checked.prog.wantsStandIn t=false:=by
  obtain rfl:f=4:=Option.some.inj ((show Tryz.prog.funcNamed "narcissus/narcissuslaw02.CodeParses" = some 4 by kernel_rfl).symm.trans hf) |>.symm
  obtain rfl:fn=Tryz.f4:=(Option.some.inj (Tryz.func4.symm.trans hfn)).symm
  refine ⟨by kernel_rfl,fun j t ht=>?_⟩
  rw [Tryz.params4] at ht
  have hm:t ∈ [9]:=by simpa using Array.mem_of_getElem? ht
  have hall:([9].all fun u => !Tryz.prog.wantsStandIn u)=true:=by kernel_rfl
  exact (show Tryz.prog.wantsStandIn t=false by simpa using List.all_eq_true.1 hall t hm)
end Go.Proofs.YtfckjfoalpkpjaaGreatDoor.CodeParses
namespace Go.Proofs.YtfckjfoalpkpjaaGreatDoor
theorem codeParses_holds:Rows.CodeParsesCardSaid :=
  Claim7.holds_tied_plain_at .later [] _ _ _ _ CodeParses.said (fun _ h=>by cases h) (by kernel_rfl) (fun _ h=>by cases h) codeParses_row_tie rfl ⟨rfl,rfl⟩ (by kernel_rfl) rfl CodeParses.plain_args (by kernel_rfl)
end Go.Proofs.YtfckjfoalpkpjaaGreatDoor
end
