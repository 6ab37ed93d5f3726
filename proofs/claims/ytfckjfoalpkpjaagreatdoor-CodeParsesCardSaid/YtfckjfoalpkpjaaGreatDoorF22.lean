import Derived.Test.YtfckjfoalpkpjaaGreatDoorT0
import Derived.Test.YtfckjfoalpkpjaaGreatDoorF23
set_option linter.unusedSimpArgs false
set_option linter.unusedVariables false
namespace Go.Proofs.YtfckjfoalpkpjaaGreatDoor.C
open Go.RowKit Go.Proofs.YtfckjfoalpkpjaaGreatDoorW.PrintWords Go.Proofs.YtfckjfoalpkpjaaGreatDoorW.PrintLast Go.Proofs.YtfckjfoalpkpjaaGreatDoorW.PrintMore
attribute [local go_sem] max2_int min2_int max_two min_two max_three min_three max_four min_four
def code_Regs.l0:Nat→Int→List (S42)→Int→Int→Option (Int × Int)
 | 0,_,_,_,_=>none
 | k+1,x4,x10,x11,x12=>if x12<x11 then (if 0≤x12 then (if x12<(x10.length:Int) then (if ((rd_T42 x10 x12).f0)=5 then (code_Regs.l0 k (mx x4 ((rd_T42 x10 x12).f1)) x10 x11 (wrap64 (x12+1))) else (code_Regs.l0 k (mx (mx (mx x4 ((rd_T42 x10 x12).f1)) ((rd_T42 x10 x12).f2)) ((rd_T42 x10 x12).f3)) x10 x11 (wrap64 (x12+1)))) else (none)) else (none)) else (some (wrap64 (x4+1),0))
def code_Regs.f (k:Nat) (l0:List (S42)):Option (Int × Int):=(code_Valid.f k l0).bind fun t1=>(if t1=true then (code_Regs.l0 k 0 l0 (l0.length:Int) 0) else (some (0,1)))
theorem code_Regs.mono_l : ∀ k,(∀ y0 y1 y2 y3,LeO (code_Regs.l0 k y0 y1 y2 y3) (code_Regs.l0 (k+1) y0 y1 y2 y3))
 | 0=>fun _ _ _ _ r h=>by simp [code_Regs.l0] at h
 | k+1=>by
  have ih0:=code_Regs.mono_l k
  ·intro y0 y1 y2 y3
   unfold code_Regs.l0
   repeat' first
   | (with_reducible exact ih0 _ _ _ _)
   | (with_reducible exact code_Valid.mono _ _)
   | (with_reducible exact LeO.refl _)
   | (with_reducible exact LeO.none _)
   | (with_reducible refine LeO.ite ?_ ?_)
   | (with_reducible refine LeO.bind ?_ (fun _=>?_))
   | exact ih0 _ _ _ _
   | exact code_Valid.mono _ _
   | exact LeO.none _
   | refine LeO.ite ?_ ?_
   | refine LeO.bind ?_ (fun _=>?_)
theorem code_Regs.mono : ∀ a0 k,LeO (code_Regs.f k a0) (code_Regs.f (k+1) a0):=by
 intro a0 k
 have ih0:=code_Regs.mono_l k
 unfold code_Regs.f
 repeat' first
   | (with_reducible exact ih0 _ _ _ _)
   | (with_reducible exact code_Valid.mono _ _)
   | (with_reducible exact LeO.refl _)
   | (with_reducible exact LeO.none _)
   | (with_reducible refine LeO.ite ?_ ?_)
   | (with_reducible refine LeO.bind ?_ (fun _=>?_))
   | exact ih0 _ _ _ _
   | exact code_Valid.mono _ _
   | exact LeO.none _
   | refine LeO.ite ?_ ?_
   | refine LeO.bind ?_ (fun _=>?_)
set_option maxHeartbeats 8000000 in
set_option maxRecDepth 100000 in
theorem code_Regs.calls (k:Nat) (A0:Option Addr) (c0:Nat) (l0:List (S42)) (r1:Int) (r2:Int) (w:World) (hr0:Kd.C k42 w A0 l0.length l0) (hc0:l0.length≤c0) (h:code_Regs.f k l0=some (r1,r2)) :
  Calls Tryz.prog 22 #[.slice A0 l0.length c0] w fun e w'=>e = .returned (.tuple #[.int .i64 r1,.int .i64 r2])∧Below w.heap.size w w':=by
 have hu42:=Tryz.underlying42
 have HR0:=Aside0.mk hr0
 have HC0:=Aside0.mk hc0
 clear hr0 hc0;have HB:=Aside0.mk (Below.refl w.heap.size w)
 have H:((code_Valid.f k l0).bind fun t1=>(if t1=true then (code_Regs.l0 k 0 l0 (l0.length:Int) 0) else (some (0,1))))=some (r1,r2):=h
 clear h;replace H:=Option.bind_eq_some_iff.mp H
 obtain ⟨t1,A20,H⟩:=H
 replace H:(if t1=true then (code_Regs.l0 k 0 l0 (l0.length:Int) 0) else (some (0,1)))=some (r1,r2):=H
 have A2:=Aside0.mk A20
 clear A20;by_cases c3:t1=true
 ·subst c3
  have H1:(code_Regs.l0 k 0 l0 (l0.length:Int) 0)=some (r1,r2):=by rw [if_pos rfl] at H;exact H
  clear H;have H:=H1
  clear H1;have H':=Aside0.mk H
  clear H;go_enter Tryz.func22,Tryz.ntmps22
  go_wp2_with (first|((with_reducible refine gate_callee (f:=23) rfl ?_);refine goesL_ (some 8) rfl rfl Tryz.func23 (by kernel_rfl) rfl #[.slice A0 l0.length c0] rfl (by (try simp only [List.map_toArray,List.map_cons,List.map_nil]);first|done|rfl|(simp only [List.length_drop,List.length_take];rfl)) ?_;(with_reducible refine (code_Valid.calls k _ _ l0 true _ ?side1 ?side2 A2.out).mono ?_);(case side1=>repeat (first|exact HR0.out|(with_reducible refine Kd.C_alloc ?_ _)|(with_reducible refine Kd.C_drewN ?_ _)|(with_reducible refine Kd.C_drew ?_)));(case side2=>exact HC0.out);rintro e w4 ⟨rfl,hb⟩;refine ⟨_,rfl,?_⟩;have n0_:=Aside0.mk (below_step (by repeat (first|(with_reducible first|exact HB.out|apply below_alloc|apply pw_below_drewN|apply below_drew1)|exact HB.out)) hb);clear HB;have HB:=n0_;clear n0_;(try clear hb);(try clear hb2);(try clear hk);(try clear hi)))
  go_loopg [4,12] k (fun kq v4 v12 w' => ∃ (x4_1:Int) (x12_1:Int),v4 = .int .i64 x4_1∧v12 = .int .i64 x12_1∧Aside0 (code_Regs.l0 kq x4_1 l0 (l0.length:Int) x12_1=some (r1,r2))∧Aside0 (kq≤k)∧Aside0 (Below w.heap.size w w'))
  case atStart=>exact ⟨(0),(0),(by first|rfl|(simp;done)|(simp [*];done)),(by first|rfl|(simp;done)|(simp [*];done)),H',⟨Nat.le_refl _⟩,⟨by repeat (first|(with_reducible first|exact HB.out|apply below_alloc|apply pw_below_drewN|apply below_drew1)|exact HB.out)⟩⟩
  case round =>
   clear H';try clear c2
   try clear p2
   try clear c3
   obtain ⟨x4_1,x12_1,rfl,rfl,HA,HK1,HB⟩:=hrel
   cases gk with
   | zero=>exact absurd HA.out (by simp [code_Regs.l0])
   | succ k1 =>
    have H:=HA.out
    clear HA;simp only [code_Regs.l0] at H
    by_cases c5:x12_1<(l0.length:Int)
    ·rw [if_pos c5] at H
     have c5b0:decide (x12_1<(l0.length:Int))=true:=decide_eq_true c5
     clear c5;by_cases c6:0≤x12_1
     ·rw [if_pos c6] at H
      have c6b0:decide (0≤x12_1)=true:=decide_eq_true c6
      clear c6;by_cases c7:x12_1<(l0.length:Int)
      ·rw [if_pos c7] at H
       have c7b0:decide (x12_1<(l0.length:Int))=true:=decide_eq_true c7
       clear c7;obtain ⟨ji8,hji8⟩ : ∃ j_:Int,(mx x4_1 ((rd_T42 l0 x12_1).f1))=j_:=⟨_,rfl⟩
       replace H:(if ((rd_T42 l0 x12_1).f0)=5 then (code_Regs.l0 k1 ji8 l0 (l0.length:Int) (wrap64 (x12_1+1))) else (code_Regs.l0 k1 (mx (mx (ji8) ((rd_T42 l0 x12_1).f2)) ((rd_T42 l0 x12_1).f3)) l0 (l0.length:Int) (wrap64 (x12_1+1))))=some (r1,r2):=by first|(rw [hji8] at H;exact H)|(simp only [hji8] at H ⊢;exact H)
       have hji8_:(if x4_1<((rd_T42 l0 x12_1).f1) then ((rd_T42 l0 x12_1).f1) else x4_1)=ji8:=hji8
       by_cases c9:((rd_T42 l0 x12_1).f0)=5
       ·rw [if_pos c9] at H
        have c9b0:(((rd_T42 l0 x12_1).f0) == 5)=true:=beq_iff_eq.mpr c9
        have c9b1:(((rd_T42 l0 x12_1).f0) != 5)=false:=bne_eq_false_iff_eq.mpr c9
        clear c9;have H':=Aside0.mk H
        clear H;have p2:0≤(x12_1:Int):=of_decide_eq_true (by first|(with_reducible assumption)|assumption)
        have q2:x12_1<(l0.length:Int):=of_decide_eq_true (by first|(with_reducible assumption)|assumption)
        obtain ⟨ad2,e2,hx2_0,hx2_1,hx2_2,hx2_3,hx2_4⟩:=at_T42 HR0.out x12_1 p2 q2
        cases e2
        replace hx2_0:=(HB.out.cell (World.block_lt_of_cell? w _ hx2_0)).trans hx2_0
        replace hx2_1:=(HB.out.cell (World.block_lt_of_cell? w _ hx2_1)).trans hx2_1
        replace hx2_2:=(HB.out.cell (World.block_lt_of_cell? w _ hx2_2)).trans hx2_2
        replace hx2_3:=(HB.out.cell (World.block_lt_of_cell? w _ hx2_3)).trans hx2_3
        replace hx2_4:=(HB.out.cell (World.block_lt_of_cell? w _ hx2_4)).trans hx2_4
        replace p2:=eq_true p2;replace q2:=eq_true q2;go_wp2_with (first|((with_reducible refine gate_dst (N:=6) rfl ?_);refine box_event ?hg (N:=6) ?hd (cs:=#[.int .i64 0,.int .i64 0,.int .i64 0,.int .i64 0,.string (⟨#[]⟩:ByteArray)]) (t:=42) ?hr ?_;(case hd=>rfl);(case hg=>rfl);(case hr=>first|(go_simp;done)|(go_simp;rfl));intro gb3 hg w10 hbox hb;have n0_:=Aside0.mk (below_step (by repeat (first|(with_reducible first|exact HB.out|apply below_alloc|apply pw_below_drewN|apply below_drew1)|exact HB.out)) hb);have n1_:=Aside0.mk (hbox);have n2_:=Aside0.mk ((by rw [hg];exact (below_size (by repeat (first|(with_reducible first|exact HB.out|apply below_alloc|apply pw_below_drewN|apply below_drew1)|exact HB.out))):w.heap.size≤gb3));have n3_:=Aside0.mk ((by rw [hg];exact (below_size (by repeat (first|(with_reducible first|exact HB.out|apply below_alloc|apply pw_below_drewN|apply below_drew1)|exact HB.out))):w.heap.size≤gb3));clear HB;have HB:=n0_;have BK3:=n1_;have GW3:=n2_;have GE3:=n3_;clear n0_ n1_ n2_ n3_;clear hb hbox hg;have hcz11_0:w10.cell? ⟨gb3,0,none⟩=some (.int .i64 0):=(blk_cell BK3.out 0).trans rfl;have hcz11_1:w10.cell? ⟨gb3,1,none⟩=some (.int .i64 0):=(blk_cell BK3.out 1).trans rfl;have hcz11_2:w10.cell? ⟨gb3,2,none⟩=some (.int .i64 0):=(blk_cell BK3.out 2).trans rfl;have hcz11_3:w10.cell? ⟨gb3,3,none⟩=some (.int .i64 0):=(blk_cell BK3.out 3).trans rfl;have hcz11_4:w10.cell? ⟨gb3,4,none⟩=some (.string (⟨#[]⟩:ByteArray)):=(blk_cell BK3.out 4).trans rfl;have hfz11_0:=blk_frozen BK3.out 0;have hfz11_1:=blk_frozen BK3.out 1;have hfz11_2:=blk_frozen BK3.out 2;have hfz11_3:=blk_frozen BK3.out 3;have hfz11_4:=blk_frozen BK3.out 4))
        go_roundg k1
        case measure=>have:=HK1.out;omega
        case rel=>exact ⟨(ji8),(wrap64 (x12_1+1)),(by first|rfl|(simp;done)|(simp only [← hji8]<;>(first|rfl|simp))|(simp [*];done)),(by first|rfl|(simp;done)|(simp [*];done)),H',⟨by have:=HK1.out;omega⟩,⟨by repeat (first|(with_reducible first|exact HB.out|apply below_alloc|apply pw_below_drewN|apply below_drew1|refine below_set ?_ GE3.out)|exact HB.out)⟩⟩
       ·rw [if_neg c9] at H
        have c9b0:(((rd_T42 l0 x12_1).f0) == 5)=false:=beq_eq_false_iff_ne.mpr c9
        have c9b1:(((rd_T42 l0 x12_1).f0) != 5)=true:=bne_iff_ne.mpr c9
        obtain ⟨ji12,hji12⟩ : ∃ j_:Int,(mx (ji8) ((rd_T42 l0 x12_1).f2))=j_:=⟨_,rfl⟩
        replace H:(code_Regs.l0 k1 (mx (ji12) ((rd_T42 l0 x12_1).f3)) l0 (l0.length:Int) (wrap64 (x12_1+1)))=some (r1,r2):=by first|(rw [hji12] at H;exact H)|(simp only [hji12] at H ⊢;exact H)
        have hji12_:(if (ji8)<((rd_T42 l0 x12_1).f2) then ((rd_T42 l0 x12_1).f2) else (ji8))=ji12:=hji12
        obtain ⟨ji13,hji13⟩ : ∃ j_:Int,(mx (ji12) ((rd_T42 l0 x12_1).f3))=j_:=⟨_,rfl⟩
        replace H:(code_Regs.l0 k1 ji13 l0 (l0.length:Int) (wrap64 (x12_1+1)))=some (r1,r2):=by first|(rw [hji13] at H;exact H)|(simp only [hji13] at H ⊢;exact H)
        have hji13_:(if (ji12)<((rd_T42 l0 x12_1).f3) then ((rd_T42 l0 x12_1).f3) else (ji12))=ji13:=hji13
        have H':=Aside0.mk H
        clear H;have p2:0≤(x12_1:Int):=of_decide_eq_true (by first|(with_reducible assumption)|assumption)
        have q2:x12_1<(l0.length:Int):=of_decide_eq_true (by first|(with_reducible assumption)|assumption)
        obtain ⟨ad2,e2,hx2_0,hx2_1,hx2_2,hx2_3,hx2_4⟩:=at_T42 HR0.out x12_1 p2 q2
        cases e2
        replace hx2_0:=(HB.out.cell (World.block_lt_of_cell? w _ hx2_0)).trans hx2_0
        replace hx2_1:=(HB.out.cell (World.block_lt_of_cell? w _ hx2_1)).trans hx2_1
        replace hx2_2:=(HB.out.cell (World.block_lt_of_cell? w _ hx2_2)).trans hx2_2
        replace hx2_3:=(HB.out.cell (World.block_lt_of_cell? w _ hx2_3)).trans hx2_3
        replace hx2_4:=(HB.out.cell (World.block_lt_of_cell? w _ hx2_4)).trans hx2_4
        replace p2:=eq_true p2;replace q2:=eq_true q2;go_wp2_with (first|((with_reducible refine gate_dst (N:=6) rfl ?_);refine box_event ?hg (N:=6) ?hd (cs:=#[.int .i64 0,.int .i64 0,.int .i64 0,.int .i64 0,.string (⟨#[]⟩:ByteArray)]) (t:=42) ?hr ?_;(case hd=>rfl);(case hg=>rfl);(case hr=>first|(go_simp;done)|(go_simp;rfl));intro gb3 hg w14 hbox hb;have n0_:=Aside0.mk (below_step (by repeat (first|(with_reducible first|exact HB.out|apply below_alloc|apply pw_below_drewN|apply below_drew1)|exact HB.out)) hb);have n1_:=Aside0.mk (hbox);have n2_:=Aside0.mk ((by rw [hg];exact (below_size (by repeat (first|(with_reducible first|exact HB.out|apply below_alloc|apply pw_below_drewN|apply below_drew1)|exact HB.out))):w.heap.size≤gb3));have n3_:=Aside0.mk ((by rw [hg];exact (below_size (by repeat (first|(with_reducible first|exact HB.out|apply below_alloc|apply pw_below_drewN|apply below_drew1)|exact HB.out))):w.heap.size≤gb3));clear HB;have HB:=n0_;have BK3:=n1_;have GW3:=n2_;have GE3:=n3_;clear n0_ n1_ n2_ n3_;clear hb hbox hg;have hcz15_0:w14.cell? ⟨gb3,0,none⟩=some (.int .i64 0):=(blk_cell BK3.out 0).trans rfl;have hcz15_1:w14.cell? ⟨gb3,1,none⟩=some (.int .i64 0):=(blk_cell BK3.out 1).trans rfl;have hcz15_2:w14.cell? ⟨gb3,2,none⟩=some (.int .i64 0):=(blk_cell BK3.out 2).trans rfl;have hcz15_3:w14.cell? ⟨gb3,3,none⟩=some (.int .i64 0):=(blk_cell BK3.out 3).trans rfl;have hcz15_4:w14.cell? ⟨gb3,4,none⟩=some (.string (⟨#[]⟩:ByteArray)):=(blk_cell BK3.out 4).trans rfl;have hfz15_0:=blk_frozen BK3.out 0;have hfz15_1:=blk_frozen BK3.out 1;have hfz15_2:=blk_frozen BK3.out 2;have hfz15_3:=blk_frozen BK3.out 3;have hfz15_4:=blk_frozen BK3.out 4))
        go_roundg k1
        case measure=>have:=HK1.out;omega
        case rel=>exact ⟨(ji13),(wrap64 (x12_1+1)),(by first|rfl|(simp;done)|(simp only [← hji13]<;>(first|rfl|simp))|(simp [*];done)),(by first|rfl|(simp;done)|(simp [*];done)),H',⟨by have:=HK1.out;omega⟩,⟨by repeat (first|(with_reducible first|exact HB.out|apply below_alloc|apply pw_below_drewN|apply below_drew1|refine below_set ?_ GE3.out)|exact HB.out)⟩⟩
      ·rw [if_neg c7] at H
       exact absurd H (by simp)
     ·rw [if_neg c6] at H
      exact absurd H (by simp)
    ·rw [if_neg c5] at H
     have c5b0:decide (x12_1<(l0.length:Int))=false:=decide_eq_false c5
     clear c5;simp only [Option.some.injEq,Prod.mk.injEq] at H
     obtain ⟨rfl,rfl⟩:=H
     go_wp2
     go_ret2
     exact ⟨by first|rfl|(simp [errW_none,errW_some]<;>rfl)|(simp [*,errW_none,errW_some]<;>rfl),by repeat (first|(with_reducible first|exact HB.out|apply below_alloc|apply pw_below_drewN|apply below_drew1)|exact HB.out)⟩
 ·replace c3:=Bool.eq_false_iff.mpr c3
  subst c3;have H1:(some (0,1))=some (r1,r2):=by rw [if_neg (show ¬ (false=true) by decide)] at H;exact H
  clear H;have H:=H1
  clear H1;simp only [Option.some.injEq,Prod.mk.injEq] at H
  obtain ⟨rfl,rfl⟩:=H
  go_enter Tryz.func22,Tryz.ntmps22
  go_wp2_with (first|((with_reducible refine gate_callee (f:=23) rfl ?_);refine goesL_ (some 8) rfl rfl Tryz.func23 (by kernel_rfl) rfl #[.slice A0 l0.length c0] rfl (by (try simp only [List.map_toArray,List.map_cons,List.map_nil]);first|done|rfl|(simp only [List.length_drop,List.length_take];rfl)) ?_;(with_reducible refine (code_Valid.calls k _ _ l0 false _ ?side1 ?side2 A2.out).mono ?_);(case side1=>repeat (first|exact HR0.out|(with_reducible refine Kd.C_alloc ?_ _)|(with_reducible refine Kd.C_drewN ?_ _)|(with_reducible refine Kd.C_drew ?_)));(case side2=>exact HC0.out);rintro e w16 ⟨rfl,hb⟩;refine ⟨_,rfl,?_⟩;have n0_:=Aside0.mk (below_step (by repeat (first|(with_reducible first|exact HB.out|apply below_alloc|apply pw_below_drewN|apply below_drew1)|exact HB.out)) hb);clear HB;have HB:=n0_;clear n0_;(try clear hb);(try clear hb2);(try clear hk);(try clear hi)))
  go_ret2
  exact ⟨by first|rfl|(simp [errW_none,errW_some]<;>rfl)|(simp [*,errW_none,errW_some]<;>rfl),by repeat (first|(with_reducible first|exact HB.out|apply below_alloc|apply pw_below_drewN|apply below_drew1)|exact HB.out)⟩
end Go.Proofs.YtfckjfoalpkpjaaGreatDoor.C
