import Derived.Test.YtfckjfoalpkpjaaGreatDoorT0
import Derived.Test.YtfckjfoalpkpjaaGreatDoorYB
import Derived.Test.YtfckjfoalpkpjaaGreatDoorCards
import Derived.Test.YtfckjfoalpkpjaaGreatDoorTie
import Derived.Test.YtfckjfoalpkpjaaGreatDoorH0
import Derived.WalkKit
import Derived.ProofKit
import Derived.OpenShut
import Derived.ShutString
import Derived.ChangeOld
import Derived.Below
import Derived.SizedLaws
import Derived.Deep.DeepHandedRow
import Derived.Lib.LaidTab
import Derived.Stop.LaidErr
import Derived.Shelf.Vars
import Derived.Lay
set_option linter.unusedSimpArgs false
set_option linter.unusedVariables false
namespace Go.Proofs.YtfckjfoalpkpjaaGreatDoor.C
open Go.RowKit Go.Proofs.YtfckjfoalpkpjaaGreatDoorW.PrintWords Go.Proofs.YtfckjfoalpkpjaaGreatDoorW.PrintLast Go.Proofs.YtfckjfoalpkpjaaGreatDoorW.PrintMore
section
attribute [local go_sem] max2_int min2_int max_two min_two max_three min_three max_four min_four
def narcissusref02_split.l0:Nat→ByteArray→List ByteArray→Int→Int→Option (List ByteArray)
 | 0,_,_,_,_=>none
 | k+1,x0,x3,x4,x5=>if x5≤(x0.size:Int) then (if x5=(x0.size:Int) then (if 0≤x4 then (if x4≤x5 then (if x3.length<8796093022208 then (narcissusref02_split.l0 k x0 (x3 ++ [x0.extract (x4:Int).toNat (x5:Int).toNat]) (wrap64 (x5+1)) (wrap64 (x5+1))) else (none)) else (none)) else (none)) else (if 0≤x5 then (if x5<(x0.size:Int) then (if (bt x0 x5)=32 then (if 0≤x4 then (if x4≤x5 then (if x3.length<8796093022208 then (narcissusref02_split.l0 k x0 (x3 ++ [x0.extract (x4:Int).toNat (x5:Int).toNat]) (wrap64 (x5+1)) (wrap64 (x5+1))) else (none)) else (none)) else (none)) else (narcissusref02_split.l0 k x0 x3 x4 (wrap64 (x5+1)))) else (none)) else (none))) else (some x3)
def narcissusref02_split.f (k:Nat) (a0:ByteArray):Option (List ByteArray):=narcissusref02_split.l0 k a0 ([]:List ByteArray) 0 0
theorem narcissusref02_split.mono_l : ∀ k,(∀ y0 y1 y2 y3,LeO (narcissusref02_split.l0 k y0 y1 y2 y3) (narcissusref02_split.l0 (k+1) y0 y1 y2 y3))
 | 0=>fun _ _ _ _ r h=>by simp [narcissusref02_split.l0] at h
 | k+1=>by
  have ih0:=narcissusref02_split.mono_l k
  ·intro y0 y1 y2 y3
   unfold narcissusref02_split.l0
   repeat' first
   | (with_reducible exact ih0 _ _ _ _)
   | (with_reducible exact LeO.refl _)
   | (with_reducible exact LeO.none _)
   | (with_reducible refine LeO.ite ?_ ?_)
   | (with_reducible refine LeO.bind ?_ (fun _=>?_))
   | exact ih0 _ _ _ _
   | exact LeO.none _
   | refine LeO.ite ?_ ?_
   | refine LeO.bind ?_ (fun _=>?_)
theorem narcissusref02_split.mono : ∀ a0 k,LeO (narcissusref02_split.f k a0) (narcissusref02_split.f (k+1) a0):=by
 intro a0 k
 have ih0:=narcissusref02_split.mono_l k
 unfold narcissusref02_split.f
 repeat' first
   | (with_reducible exact ih0 _ _ _ _)
   | (with_reducible exact LeO.refl _)
   | (with_reducible exact LeO.none _)
   | (with_reducible refine LeO.ite ?_ ?_)
   | (with_reducible refine LeO.bind ?_ (fun _=>?_))
   | exact ih0 _ _ _ _
   | exact LeO.none _
   | refine LeO.ite ?_ ?_
   | refine LeO.bind ?_ (fun _=>?_)
set_option maxHeartbeats 8000000 in
set_option maxRecDepth 100000 in
theorem narcissusref02_split.calls (k:Nat) (a0:ByteArray) (r:List ByteArray) (w:World) (h:narcissusref02_split.f k a0=some r) :
  Calls Tryz.prog 69 #[.string a0] w fun e w' => ∃ v0_:Value,e = .returned (v0_)∧Kd.R Kd.string 9 w' w.heap.size (fun _=>True) v0_ r∧Below w.heap.size w w':=by
 have HB:=Aside0.mk (Below.refl w.heap.size w)
 have H:(narcissusref02_split.l0 k a0 ([]:List ByteArray) 0 0)=some r:=h
 clear h;have H':=Aside0.mk H
 clear H;go_enter Tryz.func69,Tryz.ntmps69
 go_wp2
 go_loopg [3,4,5] k (fun kq v3 v4 v5 w' => ∃ (x3_1:List ByteArray) (x4_1:Int) (x5_1:Int),v4 = .int .i64 x4_1∧v5 = .int .i64 x5_1∧Aside0 (narcissusref02_split.l0 kq a0 x3_1 x4_1 x5_1=some r)∧Aside0 (kq≤k)∧Aside0 (Kd.R Kd.string 9 w' w.heap.size (fun _=>True) v3 x3_1)∧Aside0 (Below w.heap.size w w'))
 case atStart=>exact ⟨(([]:List ByteArray)),(0),(0),(by first|rfl|(simp;done)|(simp [*];done)),(by first|rfl|(simp;done)|(simp [*];done)),H',⟨Nat.le_refl _⟩,⟨by first|exact Kd.R_nil _ _ _ _ _|exact Kd.N_nil _ _ _ _ _|exact Kd.V_nil _ _ _ _ _|exact Kd.Q_nil _ _ _ _ _|exact Kd.S_nil _ _ _ _ _⟩,⟨by repeat (first|(with_reducible first|exact HB.out|apply below_alloc|apply pw_below_drewN|apply below_drew1)|exact HB.out)⟩⟩
 case round =>
  clear H';obtain ⟨x3_1,x4_1,x5_1,rfl,rfl,HA,HK1,HO_3,HB⟩:=hrel
  cases gk with
  | zero=>exact absurd HA.out (by simp [narcissusref02_split.l0])
  | succ k1 =>
   have H:=HA.out
   clear HA;simp only [narcissusref02_split.l0] at H
   by_cases c2:x5_1≤(a0.size:Int)
   ·rw [if_pos c2] at H
    have c2b0:decide (x5_1≤(a0.size:Int))=true:=decide_eq_true c2
    clear c2;by_cases c3:x5_1=(a0.size:Int)
    ·rw [if_pos c3] at H
     have c3b0:(x5_1 == (a0.size:Int))=true:=beq_iff_eq.mpr c3
     have c3b1:(x5_1 != (a0.size:Int))=false:=bne_eq_false_iff_eq.mpr c3
     clear c3;by_cases c4:0≤x4_1
     ·rw [if_pos c4] at H
      have c4b0:=eq_true c4
      have c4b1:decide (0≤x4_1)=true:=decide_eq_true c4
      clear c4;by_cases c5:x4_1≤x5_1
      ·rw [if_pos c5] at H
       have c5b0:=eq_true c5
       have c5b1:decide (x4_1≤x5_1)=true:=decide_eq_true c5
       clear c5;have c6b0:=eq_true (of_decide_eq_true (by first|(with_reducible assumption)|assumption):x5_1≤(a0.size:Int))
       by_cases c7:x3_1.length<8796093022208
       ·rw [if_pos c7] at H
        have LMc7:=Aside0.mk c7
        clear c7;obtain ⟨y1,hy1⟩ : ∃ y_:List ByteArray,y_=(x3_1 ++ [a0.extract (x4_1:Int).toNat (x5_1:Int).toNat]):=⟨_,rfl⟩
        replace H:(narcissusref02_split.l0 k1 a0 y1 (wrap64 (x5_1+1)) (wrap64 (x5_1+1)))=some r:=by first|(rw [hy1];with_reducible exact H)|(have H2_:=(Option.bind_some _ _).symm.trans H;rw [hy1];with_reducible exact H2_)|(have H2_:=(Option.bind_some _ _).symm.trans H;with_reducible exact H2_)|with_reducible exact H|(rw [hy1];exact H)|exact H
        have Ny1:=Aside0.mk hy1
        clear hy1;have H':=Aside0.mk H
        clear H;go_wp2_with (first|((with_reducible refine gate_builtin (b:=.append) (xs:=#[.tmp 22,.tmp 27]) rfl ?_);at_builtin;refine Kd.R_append Kd.string (w0:=w) w.heap.size rfl (.tmp 22) (.tmp 27) 36 9 (.string ⟨#[]⟩) 16 rfl Tryz.underlying36 info9 rfl (by decide) (by omega) u3 x3_1 (a0.extract (x4_1:Int).toNat (x5_1:Int).toNat) [.string (a0.extract (x4_1:Int).toNat (x5_1:Int).toNat)] (fun _=>True) (fun _=>False) rfl rfl ?aP (fun _ hk=>hk.elim) ?aF ?aO ?aB ?aS ?aL ?_;(case aP=>exact rfl);(case aB=>exact (by repeat (first|(with_reducible first|exact HB.out|apply below_alloc|apply pw_below_drewN|apply below_drew1)|exact HB.out)));(case aF=>exact (fun _ _=>trivial));(case aO=>exact (by (with_reducible repeat (first|apply Kd.R_alloc|apply Kd.R_drewN|apply Kd.R_drew));exact HO_3.out));(case aS=>exact (below_size (by repeat (first|(with_reducible first|exact HB.out|apply below_alloc|apply pw_below_drewN|apply below_drew1)|exact HB.out))));(case aL=>have:=LMc7.out;first|omega|(simp only [lit_size,List.size_toArray,List.length_cons,List.length_nil];omega));intro v2 w8 ho hb hg hat;rw [← Ny1.out] at ho;have n0_:=Aside0.mk (hb);have n1_:=Aside0.mk (ho);clear HB;clear HO_3;have HB:=n0_;have HO3:=n1_;clear n0_ n1_;clear ho hb hg hat))
        go_roundg k1
        case measure=>have:=HK1.out;omega
        case rel=>exact ⟨(y1),(wrap64 (x5_1+1)),(wrap64 (x5_1+1)),(by first|rfl|(simp;done)|(simp [*];done)),(by first|rfl|(simp;done)|(simp [*];done)),H',⟨by have:=HK1.out;omega⟩,⟨by (with_reducible repeat (first|apply Kd.R_alloc|apply Kd.R_drewN|apply Kd.R_drew));exact HO3.out⟩,⟨by repeat (first|(with_reducible first|exact HB.out|apply below_alloc|apply pw_below_drewN|apply below_drew1)|exact HB.out)⟩⟩
       ·rw [if_neg c7] at H
        exact absurd H (by simp)
      ·rw [if_neg c5] at H
       exact absurd H (by simp)
     ·rw [if_neg c4] at H
      exact absurd H (by simp)
    ·rw [if_neg c3] at H
     have c3b0:(x5_1 == (a0.size:Int))=false:=beq_eq_false_iff_ne.mpr c3
     have c3b1:(x5_1 != (a0.size:Int))=true:=bne_iff_ne.mpr c3
     by_cases c9:0≤x5_1
     ·rw [if_pos c9] at H
      have c9b0:decide (0≤x5_1)=true:=decide_eq_true c9
      clear c9;by_cases c10:x5_1<(a0.size:Int)
      ·rw [if_pos c10] at H
       have c10b0:decide (x5_1<(a0.size:Int))=true:=decide_eq_true c10
       clear c10;by_cases c12:(bt a0 x5_1)=32
       ·rw [if_pos c12] at H
        have c12b0:((bt a0 x5_1) == 32)=true:=beq_iff_eq.mpr c12
        have c12b1:((bt a0 x5_1) != 32)=false:=bne_eq_false_iff_eq.mpr c12
        clear c12;by_cases c13:0≤x4_1
        ·rw [if_pos c13] at H
         have c13b0:=eq_true c13
         have c13b1:decide (0≤x4_1)=true:=decide_eq_true c13
         clear c13;by_cases c14:x4_1≤x5_1
         ·rw [if_pos c14] at H
          have c14b0:=eq_true c14
          have c14b1:decide (x4_1≤x5_1)=true:=decide_eq_true c14
          clear c14;have c15b0:=eq_true (of_decide_eq_true (by first|(with_reducible assumption)|assumption):x5_1≤(a0.size:Int))
          by_cases c16:x3_1.length<8796093022208
          ·rw [if_pos c16] at H
           have LMc16:=Aside0.mk c16
           clear c16;obtain ⟨y4,hy4⟩ : ∃ y_:List ByteArray,y_=(x3_1 ++ [a0.extract (x4_1:Int).toNat (x5_1:Int).toNat]):=⟨_,rfl⟩
           replace H:(narcissusref02_split.l0 k1 a0 y4 (wrap64 (x5_1+1)) (wrap64 (x5_1+1)))=some r:=by first|(rw [hy4];with_reducible exact H)|(have H2_:=(Option.bind_some _ _).symm.trans H;rw [hy4];with_reducible exact H2_)|(have H2_:=(Option.bind_some _ _).symm.trans H;with_reducible exact H2_)|with_reducible exact H|(rw [hy4];exact H)|exact H
           have Ny4:=Aside0.mk hy4
           clear hy4;have H':=Aside0.mk H
           clear H;have p11:0≤(x5_1:Int):=of_decide_eq_true (by first|(with_reducible assumption)|assumption)
           have q11:x5_1<(a0.size:Int):=of_decide_eq_true (by first|(with_reducible assumption)|assumption)
           have hx11:=bt_at a0 x5_1
           replace p11:=eq_true p11;replace q11:=eq_true q11;go_wp2_with (first|((with_reducible refine gate_builtin (b:=.append) (xs:=#[.tmp 22,.tmp 27]) rfl ?_);at_builtin;refine Kd.R_append Kd.string (w0:=w) w.heap.size rfl (.tmp 22) (.tmp 27) 36 9 (.string ⟨#[]⟩) 16 rfl Tryz.underlying36 info9 rfl (by decide) (by omega) u3 x3_1 (a0.extract (x4_1:Int).toNat (x5_1:Int).toNat) [.string (a0.extract (x4_1:Int).toNat (x5_1:Int).toNat)] (fun _=>True) (fun _=>False) rfl rfl ?aP (fun _ hk=>hk.elim) ?aF ?aO ?aB ?aS ?aL ?_;(case aP=>exact rfl);(case aB=>exact (by repeat (first|(with_reducible first|exact HB.out|apply below_alloc|apply pw_below_drewN|apply below_drew1)|exact HB.out)));(case aF=>exact (fun _ _=>trivial));(case aO=>exact (by (with_reducible repeat (first|apply Kd.R_alloc|apply Kd.R_drewN|apply Kd.R_drew));exact HO_3.out));(case aS=>exact (below_size (by repeat (first|(with_reducible first|exact HB.out|apply below_alloc|apply pw_below_drewN|apply below_drew1)|exact HB.out))));(case aL=>have:=LMc16.out;first|omega|(simp only [lit_size,List.size_toArray,List.length_cons,List.length_nil];omega));intro v5 w17 ho hb hg hat;rw [← Ny4.out] at ho;have n0_:=Aside0.mk (hb);have n1_:=Aside0.mk (ho);clear HB;clear HO_3;have HB:=n0_;have HO6:=n1_;clear n0_ n1_;clear ho hb hg hat))
           go_roundg k1
           case measure=>have:=HK1.out;omega
           case rel=>exact ⟨(y4),(wrap64 (x5_1+1)),(wrap64 (x5_1+1)),(by first|rfl|(simp;done)|(simp [*];done)),(by first|rfl|(simp;done)|(simp [*];done)),H',⟨by have:=HK1.out;omega⟩,⟨by (with_reducible repeat (first|apply Kd.R_alloc|apply Kd.R_drewN|apply Kd.R_drew));exact HO6.out⟩,⟨by repeat (first|(with_reducible first|exact HB.out|apply below_alloc|apply pw_below_drewN|apply below_drew1)|exact HB.out)⟩⟩
          ·rw [if_neg c16] at H
           exact absurd H (by simp)
         ·rw [if_neg c14] at H
          exact absurd H (by simp)
        ·rw [if_neg c13] at H
         exact absurd H (by simp)
       ·rw [if_neg c12] at H
        have c12b0:((bt a0 x5_1) == 32)=false:=beq_eq_false_iff_ne.mpr c12
        have c12b1:((bt a0 x5_1) != 32)=true:=bne_iff_ne.mpr c12
        have H':=Aside0.mk H
        clear H;have p11:0≤(x5_1:Int):=of_decide_eq_true (by first|(with_reducible assumption)|assumption)
        have q11:x5_1<(a0.size:Int):=of_decide_eq_true (by first|(with_reducible assumption)|assumption)
        have hx11:=bt_at a0 x5_1
        replace p11:=eq_true p11;replace q11:=eq_true q11;go_wp2
        go_roundg k1
        case measure=>have:=HK1.out;omega
        case rel=>exact ⟨(x3_1),(x4_1),(wrap64 (x5_1+1)),(by first|rfl|(simp;done)|(simp [*];done)),(by first|rfl|(simp;done)|(simp [*];done)),H',⟨by have:=HK1.out;omega⟩,⟨by (with_reducible repeat (first|apply Kd.R_alloc|apply Kd.R_drewN|apply Kd.R_drew));exact HO_3.out⟩,⟨by repeat (first|(with_reducible first|exact HB.out|apply below_alloc|apply pw_below_drewN|apply below_drew1)|exact HB.out)⟩⟩
      ·rw [if_neg c10] at H
       exact absurd H (by simp)
     ·rw [if_neg c9] at H
      exact absurd H (by simp)
   ·rw [if_neg c2] at H
    have c2b0:decide (x5_1≤(a0.size:Int))=false:=decide_eq_false c2
    clear c2;obtain rfl:=Option.some.inj H
    go_wp2
    go_ret
    exact ⟨_,by first|rfl|(simp [errW_none,errW_some]<;>rfl)|(simp [*,errW_none,errW_some]<;>rfl),by (with_reducible repeat (first|apply Kd.R_alloc|apply Kd.R_drewN|apply Kd.R_drew));exact HO_3.out,by repeat (first|(with_reducible first|exact HB.out|apply below_alloc|apply pw_below_drewN|apply below_drew1)|exact HB.out)⟩
end
section
attribute [local go_sem] max2_int min2_int max_two min_two max_three min_three max_four min_four
mutual
def narcissusref02_integer.j0:Nat→ByteArray→Int→Int→Bool→Option (Int × Bool)
 | 0,_,_,_,_=>none
 | k+1,x0,x4,x5,x13=>if x13=true then (if 1≤(x0.size:Int) then (narcissusref02_integer.j1 k (x0.extract 1 x0.size) (-1) x5) else (none)) else (narcissusref02_integer.j1 k x0 x4 x5)
def narcissusref02_integer.j1:Nat→ByteArray→Int→Int→Option (Int × Bool)
 | 0,_,_,_=>none
 | k+1,x0,x4,x5=>narcissusref02_integer.l0 k x0 x4 x5 0
def narcissusref02_integer.l0:Nat→ByteArray→Int→Int→Int→Option (Int × Bool)
 | 0,_,_,_,_=>none
 | k+1,x0,x4,x5,x6=>if x6<(x0.size:Int) then (if 0≤x6 then (if (bt x0 x6)<48 then (narcissusref02_integer.j3 k x0 x4 x5 x6 true) else (narcissusref02_integer.j3 k x0 x4 x5 x6 (decide ((bt x0 x6) > 57)))) else (none)) else (some (wrap64 (x4 * x5),(x0.toList != ([]:List UInt8))))
def narcissusref02_integer.j3:Nat→ByteArray→Int→Int→Int→Bool→Option (Int × Bool)
 | 0,_,_,_,_,_=>none
 | k+1,x0,x4,x5,x6,x31=>if x31=true then (some (0,false)) else (if 0≤x6 then (if x6<(x0.size:Int) then (if x6 > 4 then (some (0,false)) else (narcissusref02_integer.l0 k x0 x4 (wrap64 ((wrap64 (10 * x5))+(((bt x0 x6) - 48) % 256))) (wrap64 (x6+1)))) else (none)) else (none))
end
def narcissusref02_integer.f (k:Nat) (a0:ByteArray):Option (Int × Bool):=if a0.toList=([]:List UInt8) then (narcissusref02_integer.j0 k a0 1 0 false) else (if 0<(a0.size:Int) then (narcissusref02_integer.j0 k a0 1 0 ((bt a0 0) == 45)) else (none))
theorem narcissusref02_integer.mono_l : ∀ k,(∀ y0 y1 y2 y3,LeO (narcissusref02_integer.j0 k y0 y1 y2 y3) (narcissusref02_integer.j0 (k+1) y0 y1 y2 y3))∧(∀ y0 y1 y2,LeO (narcissusref02_integer.j1 k y0 y1 y2) (narcissusref02_integer.j1 (k+1) y0 y1 y2))∧(∀ y0 y1 y2 y3,LeO (narcissusref02_integer.l0 k y0 y1 y2 y3) (narcissusref02_integer.l0 (k+1) y0 y1 y2 y3))∧(∀ y0 y1 y2 y3 y4,LeO (narcissusref02_integer.j3 k y0 y1 y2 y3 y4) (narcissusref02_integer.j3 (k+1) y0 y1 y2 y3 y4))
 | 0=>⟨fun _ _ _ _ r h=>by simp [narcissusref02_integer.j0] at h,fun _ _ _ r h=>by simp [narcissusref02_integer.j1] at h,fun _ _ _ _ r h=>by simp [narcissusref02_integer.l0] at h,fun _ _ _ _ _ r h=>by simp [narcissusref02_integer.j3] at h⟩
 | k+1=>by
  obtain ⟨ih0,ih1,ih2,ih3⟩:=narcissusref02_integer.mono_l k
  refine ⟨?_,?_,?_,?_⟩
  ·intro y0 y1 y2 y3
   unfold narcissusref02_integer.j0
   repeat' first
   | (with_reducible exact ih0 _ _ _ _)
   | (with_reducible exact ih1 _ _ _)
   | (with_reducible exact ih2 _ _ _ _)
   | (with_reducible exact ih3 _ _ _ _ _)
   | (with_reducible exact LeO.refl _)
   | (with_reducible exact LeO.none _)
   | (with_reducible refine LeO.ite ?_ ?_)
   | (with_reducible refine LeO.bind ?_ (fun _=>?_))
   | exact ih0 _ _ _ _
   | exact ih1 _ _ _
   | exact ih2 _ _ _ _
   | exact ih3 _ _ _ _ _
   | exact LeO.none _
   | refine LeO.ite ?_ ?_
   | refine LeO.bind ?_ (fun _=>?_)
  ·intro y0 y1 y2
   unfold narcissusref02_integer.j1
   repeat' first
   | (with_reducible exact ih0 _ _ _ _)
   | (with_reducible exact ih1 _ _ _)
   | (with_reducible exact ih2 _ _ _ _)
   | (with_reducible exact ih3 _ _ _ _ _)
   | (with_reducible exact LeO.refl _)
   | (with_reducible exact LeO.none _)
   | (with_reducible refine LeO.ite ?_ ?_)
   | (with_reducible refine LeO.bind ?_ (fun _=>?_))
   | exact ih0 _ _ _ _
   | exact ih1 _ _ _
   | exact ih2 _ _ _ _
   | exact ih3 _ _ _ _ _
   | exact LeO.none _
   | refine LeO.ite ?_ ?_
   | refine LeO.bind ?_ (fun _=>?_)
  ·intro y0 y1 y2 y3
   unfold narcissusref02_integer.l0
   repeat' first
   | (with_reducible exact ih0 _ _ _ _)
   | (with_reducible exact ih1 _ _ _)
   | (with_reducible exact ih2 _ _ _ _)
   | (with_reducible exact ih3 _ _ _ _ _)
   | (with_reducible exact LeO.refl _)
   | (with_reducible exact LeO.none _)
   | (with_reducible refine LeO.ite ?_ ?_)
   | (with_reducible refine LeO.bind ?_ (fun _=>?_))
   | exact ih0 _ _ _ _
   | exact ih1 _ _ _
   | exact ih2 _ _ _ _
   | exact ih3 _ _ _ _ _
   | exact LeO.none _
   | refine LeO.ite ?_ ?_
   | refine LeO.bind ?_ (fun _=>?_)
  ·intro y0 y1 y2 y3 y4
   unfold narcissusref02_integer.j3
   repeat' first
   | (with_reducible exact ih0 _ _ _ _)
   | (with_reducible exact ih1 _ _ _)
   | (with_reducible exact ih2 _ _ _ _)
   | (with_reducible exact ih3 _ _ _ _ _)
   | (with_reducible exact LeO.refl _)
   | (with_reducible exact LeO.none _)
   | (with_reducible refine LeO.ite ?_ ?_)
   | (with_reducible refine LeO.bind ?_ (fun _=>?_))
   | exact ih0 _ _ _ _
   | exact ih1 _ _ _
   | exact ih2 _ _ _ _
   | exact ih3 _ _ _ _ _
   | exact LeO.none _
   | refine LeO.ite ?_ ?_
   | refine LeO.bind ?_ (fun _=>?_)
theorem narcissusref02_integer.mono : ∀ a0 k,LeO (narcissusref02_integer.f k a0) (narcissusref02_integer.f (k+1) a0):=by
 intro a0 k
 obtain ⟨ih0,ih1,ih2,ih3⟩:=narcissusref02_integer.mono_l k
 unfold narcissusref02_integer.f
 repeat' first
   | (with_reducible exact ih0 _ _ _ _)
   | (with_reducible exact ih1 _ _ _)
   | (with_reducible exact ih2 _ _ _ _)
   | (with_reducible exact ih3 _ _ _ _ _)
   | (with_reducible exact LeO.refl _)
   | (with_reducible exact LeO.none _)
   | (with_reducible refine LeO.ite ?_ ?_)
   | (with_reducible refine LeO.bind ?_ (fun _=>?_))
   | exact ih0 _ _ _ _
   | exact ih1 _ _ _
   | exact ih2 _ _ _ _
   | exact ih3 _ _ _ _ _
   | exact LeO.none _
   | refine LeO.ite ?_ ?_
   | refine LeO.bind ?_ (fun _=>?_)
set_option maxHeartbeats 8000000 in
set_option maxRecDepth 100000 in
theorem narcissusref02_integer.calls (k:Nat) (a0:ByteArray) (r1:Int) (r2:Bool) (w:World) (h:narcissusref02_integer.f k a0=some (r1,r2)) :
  Calls Tryz.prog 71 #[.string a0] w fun e w'=>e = .returned (.tuple #[.int .i64 r1,.bool r2])∧Drawn0 w w':=by
 have H:(if a0.toList=([]:List UInt8) then (narcissusref02_integer.j0 k a0 1 0 false) else (if 0<(a0.size:Int) then (narcissusref02_integer.j0 k a0 1 0 ((bt a0 0) == 45)) else (none)))=some (r1,r2):=h
 clear h;have HC2:=Aside0.mk H
 clear H;go_enter Tryz.func71,Tryz.ntmps71
 go_upto_region 2 with (fail)
 repeat (go_quiet (fail);go_upto_region 2 with (fail))
 go_cut [13] (fun v13 wc => ∃ (kq:Nat) (x13_1:Bool),v13 = .bool x13_1∧Aside0 (narcissusref02_integer.j0 kq a0 1 0 x13_1=some (r1,r2))∧Aside0 (kq≤k)∧Drawn0 w wc)
 case first =>
  have H:=HC2.out
  clear HC2;by_cases c3:a0.toList=([]:List UInt8)
  ·rw [if_pos c3] at H
   have c3b0:(a0.toList == ([]:List UInt8))=true:=beq_iff_eq.mpr c3
   have c3b1:(a0.toList != ([]:List UInt8))=false:=bne_eq_false_iff_eq.mpr c3
   clear c3;(first|rw [c3b0]|(simp only [i64_w,i32_w];rw [c3b0])|skip)
   have H':=Aside0.mk H
   clear H;go_wp2
   repeat (go_quiet (fail);try go_wp2)
   go_meet
   case rel=>exact ⟨_,(false),(by first|rfl|(simp;done)|(simp [*];done)),H',⟨by first|omega|exact Nat.le_refl _⟩,by repeat (first|exact Drawn0.refl _|apply Drawn0.step)⟩
  ·rw [if_neg c3] at H
   have c3b0:(a0.toList == ([]:List UInt8))=false:=beq_eq_false_iff_ne.mpr c3
   have c3b1:(a0.toList != ([]:List UInt8))=true:=bne_iff_ne.mpr c3
   (first|rw [c3b0]|(simp only [i64_w,i32_w];rw [c3b0])|skip)
   by_cases c4:0<(a0.size:Int)
   ·rw [if_pos c4] at H
    have c4b0:decide (0<(a0.size:Int))=true:=decide_eq_true c4
    have c4b1:decide (0<a0.size)=true:=decide_eq_true (by omega)
    clear c4;have H':=Aside0.mk H
    clear H;have p5:0≤(0:Int):=(by omega)
    have q5:0<a0.size:=(by have:(0:Int)<(a0.size:Int):=of_decide_eq_true (by first|(with_reducible assumption)|assumption);omega)
    have hx5 : ∀ h:0<a0.size,((a0[0]'h).toNat:Int)=bt a0 0:=bt_at a0 0
    clear p5;have qi5:(0<(a0.size:Int))=True:=eq_true (of_decide_eq_true (by first|(with_reducible assumption)|assumption))
    replace q5:=eq_true q5;go_wp2
    repeat (go_quiet (fail);try go_wp2)
    go_meet
    case rel=>exact ⟨_,(((bt a0 0) == 45)),(by first|rfl|(simp;done)|(simp [*];done)),H',⟨by first|omega|exact Nat.le_refl _⟩,by repeat (first|exact Drawn0.refl _|apply Drawn0.step)⟩
   ·rw [if_neg c4] at H
    exact absurd H (by simp)
 case rest =>
  clear HC2;try clear p2
  try clear c3
  try clear c3b0
  try clear c3b1
  try clear c4
  try clear c4b0
  try clear c4b1
  try clear p5
  try clear q5
  try clear hx5
  try clear qi5
  try clear p5
  try clear q5
  obtain ⟨kq,x13_1,rfl,HA,HJ1,⟨mc1,rfl⟩⟩:=hcut
  cases kq with
  | zero=>exact absurd HA.out (by simp [narcissusref02_integer.j0])
  | succ kj1 =>
   have H:=HA.out
   clear HA;simp only [narcissusref02_integer.j0] at H
   have HC6:=Aside0.mk H
   clear H;go_upto_if 13 with (fail)
   repeat (go_quiet (fail);go_upto_if 13 with (fail))
   go_cut [0,4] (fun v0 v4 wc => ∃ (kq:Nat) (x0_5:ByteArray) (x4_5:Int),v0 = .string x0_5∧v4 = .int .i64 x4_5∧Aside0 (narcissusref02_integer.j1 kq x0_5 x4_5 0=some (r1,r2))∧Aside0 (kq≤kj1)∧Drawn0 w wc)
   case first =>
    have H:=HC6.out
    clear HC6;by_cases c7:x13_1=true
    ·subst c7
     have H1:(if 1≤(a0.size:Int) then (narcissusref02_integer.j1 kj1 (a0.extract 1 a0.size) (-1) 0) else (none))=some (r1,r2):=by rw [if_pos rfl] at H;exact H
     clear H;have H:=H1
     clear H1;by_cases c8:1≤(a0.size:Int)
     ·rw [if_pos c8] at H
      have c8b0:=eq_true c8
      have c8b1:decide (1≤(a0.size:Int))=true:=decide_eq_true c8
      clear c8;have H':=Aside0.mk H
      clear H;go_wp2
      repeat (go_quiet (fail);try go_wp2)
      go_meet
      case rel=>exact ⟨_,(a0.extract 1 a0.size),((-1)),(by first|rfl|(simp;done)|(simp [*];done)),(by first|rfl|(simp;done)|(simp [*];done)),H',⟨by have:=HJ1.out;first|omega|exact Nat.le_refl _⟩,by repeat (first|exact Drawn0.refl _|apply Drawn0.step)⟩
     ·rw [if_neg c8] at H
      exact absurd H (by simp)
    ·replace c7:=Bool.eq_false_iff.mpr c7
     subst c7;have H1:(narcissusref02_integer.j1 kj1 a0 1 0)=some (r1,r2):=by rw [if_neg (show ¬ (false=true) by decide)] at H;exact H
     clear H;have H:=H1
     clear H1;have H':=Aside0.mk H
     clear H;go_wp2
     repeat (go_quiet (fail);try go_wp2)
     go_meet
     case rel=>exact ⟨_,(a0),(1),(by first|rfl|(simp;done)|(simp [*];done)),(by first|rfl|(simp;done)|(simp [*];done)),H',⟨by have:=HJ1.out;first|omega|exact Nat.le_refl _⟩,by repeat (first|exact Drawn0.refl _|apply Drawn0.step)⟩
   case rest =>
    clear HC6;try clear c1
    try clear p2
    try clear c3
    try clear c3b0
    try clear c3b1
    try clear c4
    try clear c4b0
    try clear c4b1
    try clear p5
    try clear q5
    try clear hx5
    try clear qi5
    try clear c7
    try clear c8
    try clear c8b0
    try clear c8b1
    try clear p2
    try clear p5
    try clear q5
    obtain ⟨kq,x0_5,x4_5,rfl,rfl,HA,HJ5,⟨mc5,rfl⟩⟩:=hcut
    cases kq with
    | zero=>exact absurd HA.out (by simp [narcissusref02_integer.j1])
    | succ kj5 =>
     have H:=HA.out
     clear HA;simp only [narcissusref02_integer.j1] at H
     have H':=Aside0.mk H
     clear H;go_wp2
     repeat (go_quiet (fail);try go_wp2)
     go_loopg [5,6] kj5 (fun kq v5 v6 w' => ∃ (x5_3:Int) (x6_3:Int),v5 = .int .i64 x5_3∧v6 = .int .i64 x6_3∧Aside0 (narcissusref02_integer.l0 kq x0_5 x4_5 x5_3 x6_3=some (r1,r2))∧Aside0 (kq≤kj5)∧Drawn0 w w')
     case atStart=>exact ⟨(0),(0),(by first|rfl|(simp;done)|(simp [*];done)),(by first|rfl|(simp;done)|(simp [*];done)),H',⟨Nat.le_refl _⟩,by repeat (first|exact Drawn0.refl _|apply Drawn0.step)⟩
     case round =>
      clear H';try clear c1
      try clear p2
      try clear c3
      try clear c3b0
      try clear c3b1
      try clear c4
      try clear c4b0
      try clear c4b1
      try clear c5
      try clear p5
      try clear q5
      try clear hx5
      try clear qi5
      try clear c7
      try clear c8
      try clear c8b0
      try clear c8b1
      try clear p2
      try clear p5
      try clear q5
      obtain ⟨x5_3,x6_3,rfl,rfl,HA,HK3,⟨m3,rfl⟩⟩:=hrel
      cases gk with
      | zero=>exact absurd HA.out (by simp [narcissusref02_integer.l0])
      | succ k3 =>
       have H:=HA.out
       clear HA;simp only [narcissusref02_integer.l0] at H
       by_cases c9:x6_3<(x0_5.size:Int)
       ·rw [if_pos c9] at H
        have c9b0:decide (x6_3<(x0_5.size:Int))=true:=decide_eq_true c9
        clear c9;have HC10:=Aside0.mk H
        clear H;go_upto_region 7 with (fail)
        repeat (go_quiet (fail);go_upto_region 7 with (fail))
        go_cut [31] (fun v31 wc => ∃ (kq:Nat) (x31_9:Bool),v31 = .bool x31_9∧Aside0 (narcissusref02_integer.j3 kq x0_5 x4_5 x5_3 x6_3 x31_9=some (r1,r2))∧Aside0 (kq≤k3)∧Drawn0 w wc)
        case first =>
         have H:=HC10.out
         clear HC10;by_cases c11:0≤x6_3
         ·rw [if_pos c11] at H
          have c11b0:decide (0≤x6_3)=true:=decide_eq_true c11
          clear c11;(first|rw [c11b0]|(simp only [i64_w,i32_w];rw [c11b0])|skip)
          by_cases c13:(bt x0_5 x6_3)<48
          ·rw [if_pos c13] at H
           have c13b0:decide ((bt x0_5 x6_3)<48)=true:=decide_eq_true c13
           clear c13;have H':=Aside0.mk H
           clear H;have p12:0≤(x6_3:Int):=of_decide_eq_true (by first|(with_reducible assumption)|assumption)
           have q12:x6_3<(x0_5.size:Int):=of_decide_eq_true (by first|(with_reducible assumption)|assumption)
           have hx12:=bt_at x0_5 x6_3
           replace p12:=eq_true p12;replace q12:=eq_true q12;go_wp2
           repeat (go_quiet (fail);try go_wp2)
           go_meet
           case rel=>exact ⟨_,(true),(by first|rfl|(simp;done)|(simp [*];done)),H',⟨by have:=HJ1.out;have:=HJ5.out;have:=HK3.out;first|omega|exact Nat.le_refl _⟩,by repeat (first|exact Drawn0.refl _|apply Drawn0.step)⟩
          ·rw [if_neg c13] at H
           have c13b0:decide ((bt x0_5 x6_3)<48)=false:=decide_eq_false c13
           clear c13;have H':=Aside0.mk H
           clear H;have p12:0≤(x6_3:Int):=of_decide_eq_true (by first|(with_reducible assumption)|assumption)
           have q12:x6_3<(x0_5.size:Int):=of_decide_eq_true (by first|(with_reducible assumption)|assumption)
           have hx12:=bt_at x0_5 x6_3
           replace p12:=eq_true p12;replace q12:=eq_true q12;have p14:0≤(x6_3:Int):=of_decide_eq_true (by first|(with_reducible assumption)|assumption)
           have q14:x6_3<(x0_5.size:Int):=of_decide_eq_true (by first|(with_reducible assumption)|assumption)
           have hx14:=bt_at x0_5 x6_3
           replace p14:=eq_true p14;replace q14:=eq_true q14;go_wp2
           repeat (go_quiet (fail);try go_wp2)
           go_meet
           case rel=>exact ⟨_,(decide ((bt x0_5 x6_3) > 57)),(by first|rfl|(simp;done)|(simp [*];done)),H',⟨by have:=HJ1.out;have:=HJ5.out;have:=HK3.out;first|omega|exact Nat.le_refl _⟩,by repeat (first|exact Drawn0.refl _|apply Drawn0.step)⟩
         ·rw [if_neg c11] at H
          exact absurd H (by simp)
        case rest =>
         clear HC10;try clear c1
         try clear p1
         try clear q1
         try clear hx1
         try clear p2
         try clear c3
         try clear c3b0
         try clear c3b1
         try clear c4
         try clear c4b0
         try clear c4b1
         try clear c5
         try clear p5
         try clear q5
         try clear hx5
         try clear qi5
         try clear c7
         try clear c8
         try clear c8b0
         try clear c8b1
         try clear c9
         try clear c9b0
         try clear c11
         try clear c11b0
         try clear p12
         try clear q12
         try clear hx12
         try clear c13
         try clear c13b0
         try clear p14
         try clear q14
         try clear hx14
         try clear p12
         try clear p14
         try clear p2
         try clear p5
         try clear q12
         try clear q14
         try clear q5
         obtain ⟨kq,x31_9,rfl,HA,HJ9,⟨mc9,rfl⟩⟩:=hcut
         cases kq with
         | zero=>exact absurd HA.out (by simp [narcissusref02_integer.j3])
         | succ kj9 =>
          have H:=HA.out
          clear HA;simp only [narcissusref02_integer.j3] at H
          by_cases c15:x31_9=true
          ·subst c15
           have H1:(some (0,false))=some (r1,r2):=by rw [if_pos rfl] at H;exact H
           clear H;have H:=H1
           clear H1;simp only [Option.some.injEq,Prod.mk.injEq] at H
           obtain ⟨rfl,rfl⟩:=H
           go_wp2
           repeat (go_quiet (fail);try go_wp2)
           go_ret2
           exact ⟨by first|rfl|(simp;done)|(simp [*];done)|(simp [show ∀ l:List UInt8,(l != []) = !l.isEmpty from fun l=>by cases l<;>rfl];done),by repeat (first|exact Drawn0.refl _|apply Drawn0.step)⟩
          ·replace c15:=Bool.eq_false_iff.mpr c15
           subst c15;have H1:(if 0≤x6_3 then (if x6_3<(x0_5.size:Int) then (if x6_3 > 4 then (some (0,false)) else (narcissusref02_integer.l0 kj9 x0_5 x4_5 (wrap64 ((wrap64 (10 * x5_3))+(((bt x0_5 x6_3) - 48) % 256))) (wrap64 (x6_3+1)))) else (none)) else (none))=some (r1,r2):=by rw [if_neg (show ¬ (false=true) by decide)] at H;exact H
           clear H;have H:=H1
           clear H1;by_cases c16:0≤x6_3
           ·rw [if_pos c16] at H
            have c16b0:decide (0≤x6_3)=true:=decide_eq_true c16
            clear c16;by_cases c17:x6_3<(x0_5.size:Int)
            ·rw [if_pos c17] at H
             have c17b0:decide (x6_3<(x0_5.size:Int))=true:=decide_eq_true c17
             clear c17;by_cases c19:x6_3 > 4
             ·rw [if_pos c19] at H
              have c19b0:decide (4<x6_3)=true:=decide_eq_true c19
              clear c19;simp only [Option.some.injEq,Prod.mk.injEq] at H
              obtain ⟨rfl,rfl⟩:=H
              have p18:0≤(x6_3:Int):=of_decide_eq_true (by first|(with_reducible assumption)|assumption)
              have q18:x6_3<(x0_5.size:Int):=of_decide_eq_true (by first|(with_reducible assumption)|assumption)
              have hx18:=bt_at x0_5 x6_3
              replace p18:=eq_true p18;replace q18:=eq_true q18;go_wp2
              repeat (go_quiet (fail);try go_wp2)
              go_ret2
              exact ⟨by first|rfl|(simp;done)|(simp [*];done)|(simp [show ∀ l:List UInt8,(l != []) = !l.isEmpty from fun l=>by cases l<;>rfl];done),by repeat (first|exact Drawn0.refl _|apply Drawn0.step)⟩
             ·rw [if_neg c19] at H
              have c19b0:decide (4<x6_3)=false:=decide_eq_false c19
              clear c19;have H':=Aside0.mk H
              clear H;have p18:0≤(x6_3:Int):=of_decide_eq_true (by first|(with_reducible assumption)|assumption)
              have q18:x6_3<(x0_5.size:Int):=of_decide_eq_true (by first|(with_reducible assumption)|assumption)
              have hx18:=bt_at x0_5 x6_3
              replace p18:=eq_true p18;replace q18:=eq_true q18;go_wp2
              repeat (go_quiet (fail);try go_wp2)
              go_roundg kj9
              case measure=>have:=HJ1.out;have:=HJ5.out;have:=HK3.out;have:=HJ9.out;omega
              case rel=>exact ⟨(wrap64 ((wrap64 (10 * x5_3))+(((bt x0_5 x6_3) - 48) % 256))),(wrap64 (x6_3+1)),(by first|rfl|(simp;done)|(simp [*];done)),(by first|rfl|(simp;done)|(simp [*];done)),H',⟨by have:=HJ1.out;have:=HJ5.out;have:=HK3.out;have:=HJ9.out;omega⟩,by repeat (first|exact Drawn0.refl _|apply Drawn0.step)⟩
            ·rw [if_neg c17] at H
             exact absurd H (by simp)
           ·rw [if_neg c16] at H
            exact absurd H (by simp)
       ·rw [if_neg c9] at H
        have c9b0:decide (x6_3<(x0_5.size:Int))=false:=decide_eq_false c9
        clear c9;simp only [Option.some.injEq,Prod.mk.injEq] at H
        obtain ⟨rfl,rfl⟩:=H
        go_wp2
        repeat (go_quiet (fail);try go_wp2)
        go_ret2
        exact ⟨by first|rfl|(simp;done)|(simp [*];done)|(simp [show ∀ l:List UInt8,(l != []) = !l.isEmpty from fun l=>by cases l<;>rfl];done),by repeat (first|exact Drawn0.refl _|apply Drawn0.step)⟩
end
section
attribute [local go_sem] max2_int min2_int max_two min_two max_three min_three max_four min_four
theorem restart38_ {P:Program} {md:Region.Mode} {ops:Array Oper} {Q:Exit→Act→World→Prop} {S S':World→Prop} (hSS : ∀ w,S' w→S w) : ∀ (fuel:Nat) (l:Array Bool) (a:Act) (w:World),S' w→(S' w→wpAnyLast P md ops Q S' [] fuel l a w)→wpAnyLast P md ops Q S [] fuel l a w:=by
  have go : ∀ (fuel:Nat) (l:Array Bool) (a:Act) (w:World),S' w→wpAnyLast P md ops Q S' [] fuel l a w→wpAnyLast P md ops Q S [] fuel l a w:=by
    intro fuel
    induction fuel with
    | zero=>intro l a w _ h;exact h
    | succ n ih =>
      intro l a w hw h
      exact ⟨h.1,fun i hi=>wpOp_mono (fun a' w' h'=>⟨fun _ _=>hSS _ (h'.1 (by simp) hw),ih _ a' w' (h'.1 (by simp) hw) h'.2⟩) (h.2 i hi)⟩
  exact fun fuel l a w hw h=>go fuel l a w hw (h hw)
mutual
def narcissusref02_read.l0:Nat→List ByteArray→Int→Int→Int→Int→Int→ByteArray→Option (Int × Int × Int × Int × ByteArray × Bool)
 | 0,_,_,_,_,_,_,_=>none
 | k+1,x4,x6,x6000,x6001,x6002,x6003,x6004=>(narcissusref02_names.f).bind fun t6=>(if x6<(t6.length:Int) then (if 0<(x4.length:Int) then ((narcissusref02_names.f).bind fun t10=>(if 0≤x6 then (if x6<(t10.length:Int) then (if (rdOf ByteArray.empty x4 0).toList=(rdOf ByteArray.empty t10 x6).toList then (narcissusref02_read.l0 k x4 (wrap64 (x6+1)) x6 x6001 x6002 x6003 x6004) else (narcissusref02_read.l0 k x4 (wrap64 (x6+1)) x6000 x6001 x6002 x6003 x6004)) else (none)) else (none))) else (none)) else (if x6000=2 then (narcissusref02_read.j1 k x4 4 x6000 x6001 x6002 x6003 x6004) else (narcissusref02_read.j1 k x4 3 x6000 x6001 x6002 x6003 x6004)))
def narcissusref02_read.j1:Nat→List ByteArray→Int→Int→Int→Int→Int→ByteArray→Option (Int × Int × Int × Int × ByteArray × Bool)
 | 0,_,_,_,_,_,_,_=>none
 | k+1,x4,x7,x6000,x6001,x6002,x6003,x6004=>if x6000<0 then (narcissusref02_read.j2 k x4 true x6000 x6001 x6002 x6003 x6004) else (narcissusref02_read.j2 k x4 ((x4.length:Int) != x7) x6000 x6001 x6002 x6003 x6004)
def narcissusref02_read.j2:Nat→List ByteArray→Bool→Int→Int→Int→Int→ByteArray→Option (Int × Int × Int × Int × ByteArray × Bool)
 | 0,_,_,_,_,_,_,_=>none
 | k+1,x4,x44,x6000,x6001,x6002,x6003,x6004=>if x44=true then (some (x6000,x6001,x6002,x6003,x6004,false)) else (if 1<(x4.length:Int) then ((narcissusref02_integer.f k (rdOf ByteArray.empty x4 1)).bind fun bt15=>(if x6000=0 then (if 2<(x4.length:Int) then (some (x6000,bt15.1,x6002,x6003,rdOf ByteArray.empty x4 2,bt15.2)) else (none)) else (if 2<(x4.length:Int) then ((narcissusref02_integer.f k (rdOf ByteArray.empty x4 2)).bind fun bt19=>(if x6000=2 then (if 3<(x4.length:Int) then ((narcissusref02_integer.f k (rdOf ByteArray.empty x4 3)).bind fun bt22=>(if bt15.2=true then (if bt19.2=true then (some (x6000,bt15.1,bt19.1,bt22.1,x6004,bt22.2)) else (some (x6000,bt15.1,bt19.1,bt22.1,x6004,false))) else (some (x6000,bt15.1,bt19.1,bt22.1,x6004,false)))) else (none)) else (if bt15.2=true then (some (x6000,bt15.1,bt19.1,x6003,x6004,bt19.2)) else (some (x6000,bt15.1,bt19.1,x6003,x6004,false))))) else (none)))) else (none))
end
def narcissusref02_read.f (k:Nat) (a0:ByteArray):Option (Int × Int × Int × Int × ByteArray × Bool):=(narcissusref02_split.f k a0).bind fun t2=>(narcissusref02_read.l0 k t2 0 (-1) 0 0 0 (⟨#[]⟩:ByteArray))
theorem narcissusref02_read.mono_l : ∀ k,(∀ y0 y1 y2 y3 y4 y5 y6,LeO (narcissusref02_read.l0 k y0 y1 y2 y3 y4 y5 y6) (narcissusref02_read.l0 (k+1) y0 y1 y2 y3 y4 y5 y6))∧(∀ y0 y1 y2 y3 y4 y5 y6,LeO (narcissusref02_read.j1 k y0 y1 y2 y3 y4 y5 y6) (narcissusref02_read.j1 (k+1) y0 y1 y2 y3 y4 y5 y6))∧(∀ y0 y1 y2 y3 y4 y5 y6,LeO (narcissusref02_read.j2 k y0 y1 y2 y3 y4 y5 y6) (narcissusref02_read.j2 (k+1) y0 y1 y2 y3 y4 y5 y6))
 | 0=>⟨fun _ _ _ _ _ _ _ r h=>by simp [narcissusref02_read.l0] at h,fun _ _ _ _ _ _ _ r h=>by simp [narcissusref02_read.j1] at h,fun _ _ _ _ _ _ _ r h=>by simp [narcissusref02_read.j2] at h⟩
 | k+1=>by
  obtain ⟨ih0,ih1,ih2⟩:=narcissusref02_read.mono_l k
  refine ⟨?_,?_,?_⟩
  ·intro y0 y1 y2 y3 y4 y5 y6
   unfold narcissusref02_read.l0
   repeat' first
   | (with_reducible exact ih0 _ _ _ _ _ _ _)
   | (with_reducible exact ih1 _ _ _ _ _ _ _)
   | (with_reducible exact ih2 _ _ _ _ _ _ _)
   | (with_reducible exact narcissusref02_integer.mono _ _)
   | (with_reducible exact narcissusref02_split.mono _ _)
   | (with_reducible exact LeO.refl _)
   | (with_reducible exact LeO.none _)
   | (with_reducible refine LeO.ite ?_ ?_)
   | (with_reducible refine LeO.bind ?_ (fun _=>?_))
   | exact ih0 _ _ _ _ _ _ _
   | exact ih1 _ _ _ _ _ _ _
   | exact ih2 _ _ _ _ _ _ _
   | exact narcissusref02_integer.mono _ _
   | exact narcissusref02_split.mono _ _
   | exact LeO.none _
   | refine LeO.ite ?_ ?_
   | refine LeO.bind ?_ (fun _=>?_)
  ·intro y0 y1 y2 y3 y4 y5 y6
   unfold narcissusref02_read.j1
   repeat' first
   | (with_reducible exact ih0 _ _ _ _ _ _ _)
   | (with_reducible exact ih1 _ _ _ _ _ _ _)
   | (with_reducible exact ih2 _ _ _ _ _ _ _)
   | (with_reducible exact narcissusref02_integer.mono _ _)
   | (with_reducible exact narcissusref02_split.mono _ _)
   | (with_reducible exact LeO.refl _)
   | (with_reducible exact LeO.none _)
   | (with_reducible refine LeO.ite ?_ ?_)
   | (with_reducible refine LeO.bind ?_ (fun _=>?_))
   | exact ih0 _ _ _ _ _ _ _
   | exact ih1 _ _ _ _ _ _ _
   | exact ih2 _ _ _ _ _ _ _
   | exact narcissusref02_integer.mono _ _
   | exact narcissusref02_split.mono _ _
   | exact LeO.none _
   | refine LeO.ite ?_ ?_
   | refine LeO.bind ?_ (fun _=>?_)
  ·intro y0 y1 y2 y3 y4 y5 y6
   unfold narcissusref02_read.j2
   repeat' first
   | (with_reducible exact ih0 _ _ _ _ _ _ _)
   | (with_reducible exact ih1 _ _ _ _ _ _ _)
   | (with_reducible exact ih2 _ _ _ _ _ _ _)
   | (with_reducible exact narcissusref02_integer.mono _ _)
   | (with_reducible exact narcissusref02_split.mono _ _)
   | (with_reducible exact LeO.refl _)
   | (with_reducible exact LeO.none _)
   | (with_reducible refine LeO.ite ?_ ?_)
   | (with_reducible refine LeO.bind ?_ (fun _=>?_))
   | exact ih0 _ _ _ _ _ _ _
   | exact ih1 _ _ _ _ _ _ _
   | exact ih2 _ _ _ _ _ _ _
   | exact narcissusref02_integer.mono _ _
   | exact narcissusref02_split.mono _ _
   | exact LeO.none _
   | refine LeO.ite ?_ ?_
   | refine LeO.bind ?_ (fun _=>?_)
theorem narcissusref02_read.mono : ∀ a0 k,LeO (narcissusref02_read.f k a0) (narcissusref02_read.f (k+1) a0):=by
 intro a0 k
 obtain ⟨ih0,ih1,ih2⟩:=narcissusref02_read.mono_l k
 unfold narcissusref02_read.f
 repeat' first
   | (with_reducible exact ih0 _ _ _ _ _ _ _)
   | (with_reducible exact ih1 _ _ _ _ _ _ _)
   | (with_reducible exact ih2 _ _ _ _ _ _ _)
   | (with_reducible exact narcissusref02_integer.mono _ _)
   | (with_reducible exact narcissusref02_split.mono _ _)
   | (with_reducible exact LeO.refl _)
   | (with_reducible exact LeO.none _)
   | (with_reducible refine LeO.ite ?_ ?_)
   | (with_reducible refine LeO.bind ?_ (fun _=>?_))
   | exact ih0 _ _ _ _ _ _ _
   | exact ih1 _ _ _ _ _ _ _
   | exact ih2 _ _ _ _ _ _ _
   | exact narcissusref02_integer.mono _ _
   | exact narcissusref02_split.mono _ _
   | exact LeO.none _
   | refine LeO.ite ?_ ?_
   | refine LeO.bind ?_ (fun _=>?_)
def narcissusref02_read.T6:Bool × List (List Nat × List Nat):=(true,[([],[]),([0],[0]),([1],[1]),([],[]),([],[]),([3,4],[3,4]),([5],[5]),([2,6],[2,6])])
def narcissusref02_read.B6:List Nat:=[0,1,3,0,0,24,56,127]
theorem narcissusref02_read.tab6:rtab .any (opsOf Tryz.f38 6)=narcissusref02_read.T6:=by kernel_rfl
theorem narcissusref02_read.bits6:waitsOk narcissusref02_read.T6.2 narcissusref02_read.B6=true:=by kernel_rfl
set_option maxHeartbeats 8000000 in
set_option maxRecDepth 100000 in
theorem narcissusref02_read.calls (k:Nat) (a0:ByteArray) (r1:Int) (r2:Int) (r3:Int) (r4:Int) (r5:ByteArray) (r6:Bool) (w:World) (h:narcissusref02_read.f k a0=some (r1,r2,r3,r4,r5,r6)) :
  Calls Tryz.prog 38 #[.string a0] w fun e w'=>e = .returned (.tuple #[.agg #[.int .i64 r1,.int .i64 r2,.int .i64 r3,.int .i64 r4,.string r5],.bool r6])∧Below w.heap.size w w':=by
 have hu42:=Tryz.underlying42
 have HB:=Aside0.mk (Below.refl w.heap.size w)
 have H:((narcissusref02_split.f k a0).bind fun t2=>(narcissusref02_read.l0 k t2 0 (-1) 0 0 0 (⟨#[]⟩:ByteArray)))=some (r1,r2,r3,r4,r5,r6):=h
 clear h;replace H:=Option.bind_eq_some_iff.mp H
 obtain ⟨t2,A20,H⟩:=H
 replace H:(narcissusref02_read.l0 k t2 0 (-1) 0 0 0 (⟨#[]⟩:ByteArray))=some (r1,r2,r3,r4,r5,r6):=H
 have A2:=Aside0.mk A20
 clear A20;have H':=Aside0.mk H
 clear H;go_enter Tryz.func38,Tryz.ntmps38
 go_wp2_with (first|((with_reducible refine gate_dst (N:=2) rfl ?_);(try (refine gate_guard (by rfl) ?_;dsimp only));refine box_event ?hg (N:=2) ?hd (cs:=#[.int .i64 0,.int .i64 0,.int .i64 0,.int .i64 0,.string (⟨#[]⟩:ByteArray)]) (t:=42) ?hr ?_;(case hd=>rfl);(case hg=>rfl);(case hr=>first|(go_simp;done)|(go_simp;rfl));intro gb1 hg w3 hbox hb;have n0_:=Aside0.mk (below_step (by repeat (first|(with_reducible first|exact HB.out|apply below_alloc|apply pw_below_drewN|apply below_drew1)|exact HB.out)) hb);have n1_:=Aside0.mk (hbox);have n2_:=Aside0.mk ((by rw [hg];exact (below_size (by repeat (first|(with_reducible first|exact HB.out|apply below_alloc|apply pw_below_drewN|apply below_drew1)|exact HB.out))):w.heap.size≤gb1));have n3_:=Aside0.mk ((by rw [hg];exact (below_size (by repeat (first|(with_reducible first|exact HB.out|apply below_alloc|apply pw_below_drewN|apply below_drew1)|exact HB.out))):w.heap.size≤gb1));clear HB;have HB:=n0_;have BK1:=n1_;have GW1:=n2_;have GE1:=n3_;clear n0_ n1_ n2_ n3_;clear hb hbox hg)|((with_reducible refine gate_callee (f:=69) rfl ?_);refine goesL_ (some 15) rfl rfl Tryz.func69 (by kernel_rfl) rfl #[.string a0] rfl (by (try simp only [List.map_toArray,List.map_cons,List.map_nil]);first|done|rfl) ?_;(with_reducible refine (narcissusref02_split.calls k a0 t2 _ A2.out).mono ?_);rintro e w4 ⟨v3,rfl,ho0,hb⟩;refine ⟨_,rfl,?_⟩;have n0_:=Aside0.mk (Kd.R_lower ho0 (below_size (by repeat (first|(with_reducible first|exact HB.out|apply below_alloc|apply pw_below_drewN|apply below_drew1|refine below_set ?_ GE1.out)|exact HB.out))));have n1_:=Aside0.mk (blk_below (g:=gb1) (o:=.cells #[.int .i64 0,.int .i64 0,.int .i64 0,.int .i64 0,.string (⟨#[]⟩:ByteArray)] 42 (0,0)) (by (with_reducible repeat (first|refine blk_drewN ?_ _|refine blk_drew ?_|refine blk_alloc ?_ _));exact BK1.out) hb);have n2_:=Aside0.mk (below_step (by repeat (first|(with_reducible first|exact HB.out|apply below_alloc|apply pw_below_drewN|apply below_drew1|refine below_set ?_ GE1.out)|exact HB.out)) hb);clear BK1;clear HB;have HO4:=n0_;have BK1:=n1_;have HB:=n2_;clear n0_ n1_ n2_;(try clear hb);(try clear hb2);(try clear hk);(try clear hi);(try clear ho0))|((with_reducible refine gate_dst (N:=5) rfl ?_);(try (refine gate_guard (by rfl) ?_;dsimp only));refine box_event ?hg (N:=5) ?hd (cs:=#[.int .i64 0,.int .i64 0,.int .i64 0,.int .i64 0,.string (⟨#[]⟩:ByteArray)]) (t:=42) ?hr ?_;(case hd=>rfl);(case hg=>rfl);(case hr=>first|(go_simp;done)|(go_simp;rfl));intro gb5 hg w5 hbox hb;have n0_:=Aside0.mk (Kd.R_below (by (with_reducible repeat (first|apply Kd.R_alloc|apply Kd.R_drewN|apply Kd.R_drew));exact HO4.out) hb);have n1_:=Aside0.mk (blk_below (g:=gb1) (o:=.cells #[.int .i64 0,.int .i64 0,.int .i64 0,.int .i64 0,.string (⟨#[]⟩:ByteArray)] 42 (0,0)) (by (with_reducible repeat (first|refine blk_drewN ?_ _|refine blk_drew ?_|refine blk_alloc ?_ _));exact BK1.out) hb);have n2_:=Aside0.mk (below_step (by repeat (first|(with_reducible first|exact HB.out|apply below_alloc|apply pw_below_drewN|apply below_drew1|refine below_set ?_ GE1.out)|exact HB.out)) hb);have n3_:=Aside0.mk (hbox);have n4_:=Aside0.mk ((by rw [hg];exact (below_size (by repeat (first|(with_reducible first|exact HB.out|apply below_alloc|apply pw_below_drewN|apply below_drew1|refine below_set ?_ GE1.out)|exact HB.out))):w.heap.size≤gb5));have n5_:=Aside0.mk ((by rw [hg];exact (below_size (by repeat (first|(with_reducible first|exact HB.out|apply below_alloc|apply pw_below_drewN|apply below_drew1|refine below_set ?_ GE1.out)|exact HB.out))):w.heap.size≤gb5));have n6_:=Aside0.mk ((by rw [hg];exact Nat.ne_of_lt (blk_lt (g:=gb1) (o:=.cells #[.int .i64 0,.int .i64 0,.int .i64 0,.int .i64 0,.string (⟨#[]⟩:ByteArray)] 42 (0,0)) (by (with_reducible repeat (first|refine blk_drewN ?_ _|refine blk_drew ?_|refine blk_alloc ?_ _));exact BK1.out)):gb1 ≠ gb5));have n7_:=Aside0.mk ((by rw [hg];exact Nat.ne_of_gt (blk_lt (g:=gb1) (o:=.cells #[.int .i64 0,.int .i64 0,.int .i64 0,.int .i64 0,.string (⟨#[]⟩:ByteArray)] 42 (0,0)) (by (with_reducible repeat (first|refine blk_drewN ?_ _|refine blk_drew ?_|refine blk_alloc ?_ _));exact BK1.out)):gb5 ≠ gb1));clear HO4;clear BK1;clear HB;have HO4:=n0_;have BK1:=n1_;have HB:=n2_;have BK5:=n3_;have GW5:=n4_;have GE5:=n5_;have NB1_5:=n6_;have NB5_1:=n7_;clear n0_ n1_ n2_ n3_ n4_ n5_ n6_ n7_;clear hb hbox hg;have hnb6:=NB5_1.out;have hnc6:=NB1_5.out;have hcz7_0:w5.cell? ⟨gb5,0,none⟩=some (.int .i64 0):=(blk_cell BK5.out 0).trans rfl;have hcz7_1:w5.cell? ⟨gb5,1,none⟩=some (.int .i64 0):=(blk_cell BK5.out 1).trans rfl;have hcz7_2:w5.cell? ⟨gb5,2,none⟩=some (.int .i64 0):=(blk_cell BK5.out 2).trans rfl;have hcz7_3:w5.cell? ⟨gb5,3,none⟩=some (.int .i64 0):=(blk_cell BK5.out 3).trans rfl;have hcz7_4:w5.cell? ⟨gb5,4,none⟩=some (.string (⟨#[]⟩:ByteArray)):=(blk_cell BK5.out 4).trans rfl;have hfz7_0:=blk_frozen BK5.out 0;have hfz7_1:=blk_frozen BK5.out 1;have hfz7_2:=blk_frozen BK5.out 2;have hfz7_3:=blk_frozen BK5.out 3;have hfz7_4:=blk_frozen BK5.out 4))
 go_loopg [6] k (fun kq v6 w' => ∃ (x6_1:Int) (x6000_1:Int),v6 = .int .i64 x6_1∧Aside0 (narcissusref02_read.l0 kq t2 x6_1 x6000_1 0 0 0 (⟨#[]⟩:ByteArray)=some (r1,r2,r3,r4,r5,r6))∧Aside0 (kq≤k)∧Aside0 (Kd.R Kd.string 9 w' w.heap.size (fun _=>True) v3 t2)∧Aside0 (w'.heap[gb1]? = some (.cells #[.int .i64 0,.int .i64 0,.int .i64 0,.int .i64 0,.string (⟨#[]⟩:ByteArray)] 42 (0,0)))∧Aside0 (w'.heap[gb5]? = some (.cells #[.int .i64 x6000_1,.int .i64 0,.int .i64 0,.int .i64 0,.string (⟨#[]⟩:ByteArray)] 42 (0,0)))∧Aside0 (Below w.heap.size w w'))
 case atStart=>exact ⟨(0),((-1)),(by first|rfl|(simp;done)|(simp [*];done)),H',⟨Nat.le_refl _⟩,⟨by (with_reducible repeat (first|apply Kd.R_alloc|apply Kd.R_drewN|apply Kd.R_drew));exact Kd.R_mono (Kd.R_far (p:=⟨gb5,4,none⟩) (Kd.R_far (p:=⟨gb5,3,none⟩) (Kd.R_far (p:=⟨gb5,2,none⟩) (Kd.R_far (p:=⟨gb5,1,none⟩) (Kd.R_far (p:=⟨gb5,0,none⟩) (Kd.R_types HO4.out BK5.out (by decide)) (fun _ hk=>hk.2) (.int .i64 (-1))) (fun _ hk=>hk.2) (.int .i64 0)) (fun _ hk=>hk.2) (.int .i64 0)) (fun _ hk=>hk.2) (.int .i64 0)) (fun _ hk=>hk.2) (.string (⟨#[]⟩:ByteArray))) (fun _ hk=>trivial)⟩,⟨by (with_reducible repeat (first|refine blk_drewN ?_ _|refine blk_drew ?_|refine blk_alloc ?_ _));refine blk_far ?_ NB1_5.out _;(with_reducible repeat (first|refine blk_drewN ?_ _|refine blk_drew ?_|refine blk_alloc ?_ _));refine blk_far ?_ NB1_5.out _;(with_reducible repeat (first|refine blk_drewN ?_ _|refine blk_drew ?_|refine blk_alloc ?_ _));refine blk_far ?_ NB1_5.out _;(with_reducible repeat (first|refine blk_drewN ?_ _|refine blk_drew ?_|refine blk_alloc ?_ _));refine blk_far ?_ NB1_5.out _;(with_reducible repeat (first|refine blk_drewN ?_ _|refine blk_drew ?_|refine blk_alloc ?_ _));refine blk_far ?_ NB1_5.out _;(with_reducible repeat (first|refine blk_drewN ?_ _|refine blk_drew ?_|refine blk_alloc ?_ _));exact BK1.out⟩,⟨by (with_reducible repeat (first|refine blk_drewN ?_ _|refine blk_drew ?_|refine blk_alloc ?_ _));refine blk_put (cs:=#[.int .i64 (-1),.int .i64 0,.int .i64 0,.int .i64 0,.string (⟨#[]⟩:ByteArray)]) ?_ 4 _ rfl;(with_reducible repeat (first|refine blk_drewN ?_ _|refine blk_drew ?_|refine blk_alloc ?_ _));refine blk_put (cs:=#[.int .i64 (-1),.int .i64 0,.int .i64 0,.int .i64 0,.string (⟨#[]⟩:ByteArray)]) ?_ 3 _ rfl;(with_reducible repeat (first|refine blk_drewN ?_ _|refine blk_drew ?_|refine blk_alloc ?_ _));refine blk_put (cs:=#[.int .i64 (-1),.int .i64 0,.int .i64 0,.int .i64 0,.string (⟨#[]⟩:ByteArray)]) ?_ 2 _ rfl;(with_reducible repeat (first|refine blk_drewN ?_ _|refine blk_drew ?_|refine blk_alloc ?_ _));refine blk_put (cs:=#[.int .i64 (-1),.int .i64 0,.int .i64 0,.int .i64 0,.string (⟨#[]⟩:ByteArray)]) ?_ 1 _ rfl;(with_reducible repeat (first|refine blk_drewN ?_ _|refine blk_drew ?_|refine blk_alloc ?_ _));refine blk_put (cs:=#[.int .i64 0,.int .i64 0,.int .i64 0,.int .i64 0,.string (⟨#[]⟩:ByteArray)]) ?_ 0 _ rfl;(with_reducible repeat (first|refine blk_drewN ?_ _|refine blk_drew ?_|refine blk_alloc ?_ _));exact BK5.out⟩,⟨by repeat (first|(with_reducible first|exact HB.out|apply below_alloc|apply pw_below_drewN|apply below_drew1|refine below_set ?_ GE1.out|refine below_set ?_ GE5.out)|exact HB.out)⟩⟩
 case round =>
  clear H';try clear p2
  try clear c3
  try clear c6
  try clear hcz7_0
  try clear hcz7_1
  try clear hcz7_2
  try clear hcz7_3
  try clear hcz7_4
  try clear hfz7_0
  try clear hfz7_1
  try clear hfz7_2
  try clear hfz7_3
  try clear hfz7_4
  obtain ⟨x6_1,x6000_1,rfl,HA,HK1,HO_4,BK1,BK5,HB⟩:=hrel
  cases gk with
  | zero=>exact absurd HA.out (by simp [narcissusref02_read.l0])
  | succ k1 =>
   have H:=HA.out
   clear HA;simp only [narcissusref02_read.l0] at H
   replace H:=Option.bind_eq_some_iff.mp H
   obtain ⟨t6,A80,H⟩:=H
   replace H:(if x6_1<(t6.length:Int) then (if 0<(t2.length:Int) then ((narcissusref02_names.f).bind fun t10=>(if 0≤x6_1 then (if x6_1<(t10.length:Int) then (if (rdOf ByteArray.empty t2 0).toList=(rdOf ByteArray.empty t10 x6_1).toList then (narcissusref02_read.l0 k1 t2 (wrap64 (x6_1+1)) x6_1 0 0 0 (⟨#[]⟩:ByteArray)) else (narcissusref02_read.l0 k1 t2 (wrap64 (x6_1+1)) x6000_1 0 0 0 (⟨#[]⟩:ByteArray))) else (none)) else (none))) else (none)) else (if x6000_1=2 then (narcissusref02_read.j1 k1 t2 4 x6000_1 0 0 0 (⟨#[]⟩:ByteArray)) else (narcissusref02_read.j1 k1 t2 3 x6000_1 0 0 0 (⟨#[]⟩:ByteArray))))=some (r1,r2,r3,r4,r5,r6):=H
   have A8:=Aside0.mk A80
   clear A80;by_cases c9:x6_1<(t6.length:Int)
   ·rw [if_pos c9] at H
    have c9b0:decide (x6_1<(t6.length:Int))=true:=decide_eq_true c9
    clear c9;by_cases c10:0<(t2.length:Int)
    ·rw [if_pos c10] at H
     have c10b0:decide (0<(t2.length:Int))=true:=decide_eq_true c10
     have c10b1:decide (0<t2.length)=true:=decide_eq_true (by omega)
     clear c10;replace H:=Option.bind_eq_some_iff.mp H
     obtain ⟨t10,A110,H⟩:=H
     replace H:(if 0≤x6_1 then (if x6_1<(t10.length:Int) then (if (rdOf ByteArray.empty t2 0).toList=(rdOf ByteArray.empty t10 x6_1).toList then (narcissusref02_read.l0 k1 t2 (wrap64 (x6_1+1)) x6_1 0 0 0 (⟨#[]⟩:ByteArray)) else (narcissusref02_read.l0 k1 t2 (wrap64 (x6_1+1)) x6000_1 0 0 0 (⟨#[]⟩:ByteArray))) else (none)) else (none))=some (r1,r2,r3,r4,r5,r6):=H
     have A11:=Aside0.mk A110
     clear A110;by_cases c12:0≤x6_1
     ·rw [if_pos c12] at H
      have c12b0:decide (0≤x6_1)=true:=decide_eq_true c12
      clear c12;by_cases c13:x6_1<(t10.length:Int)
      ·rw [if_pos c13] at H
       have c13b0:decide (x6_1<(t10.length:Int))=true:=decide_eq_true c13
       clear c13;by_cases c14:(rdOf ByteArray.empty t2 0).toList=(rdOf ByteArray.empty t10 x6_1).toList
       ·rw [if_pos c14] at H
        have c14b0:((rdOf ByteArray.empty t2 0).toList == (rdOf ByteArray.empty t10 x6_1).toList)=true:=beq_iff_eq.mpr c14
        have c14b1:((rdOf ByteArray.empty t2 0).toList != (rdOf ByteArray.empty t10 x6_1).toList)=false:=bne_eq_false_iff_eq.mpr c14
        clear c14;have H':=Aside0.mk H
        clear H;try go_wp2_with (first|((with_reducible refine gate_callee (f:=70) rfl ?_);refine goesL_ (some 18) rfl rfl Tryz.func70 (by kernel_rfl) rfl #[] rfl (by (try simp only [List.map_toArray,List.map_cons,List.map_nil]);first|done|rfl) ?_;(with_reducible refine (narcissusref02_names.calls  t6 _ A8.out).mono ?_);rintro e w15 ⟨v7,rfl,ho0,hb⟩;refine ⟨_,rfl,?_⟩;have n0_:=Aside0.mk (Kd.R_elder' (by (with_reducible repeat (first|apply Kd.R_alloc|apply Kd.R_drewN|apply Kd.R_drew));exact HO_4.out) (Kd.R_base ho0) hb);have n1_:=Aside0.mk (Kd.R_lower (Kd.R_new' ho0 (Kd.R_lt (by (with_reducible repeat (first|apply Kd.R_alloc|apply Kd.R_drewN|apply Kd.R_drew));exact HO_4.out))) (below_size (by repeat (first|(with_reducible first|exact HB.out|apply below_alloc|apply pw_below_drewN|apply below_drew1|refine below_set ?_ GE1.out|refine below_set ?_ GE5.out)|exact HB.out))));have n2_:=Aside0.mk (blk_below (g:=gb1) (o:=.cells #[.int .i64 0,.int .i64 0,.int .i64 0,.int .i64 0,.string (⟨#[]⟩:ByteArray)] 42 (0,0)) (by (with_reducible repeat (first|refine blk_drewN ?_ _|refine blk_drew ?_|refine blk_alloc ?_ _));exact BK1.out) hb);have n3_:=Aside0.mk (blk_below (g:=gb5) (o:=.cells #[.int .i64 x6000_1,.int .i64 0,.int .i64 0,.int .i64 0,.string (⟨#[]⟩:ByteArray)] 42 (0,0)) (by (with_reducible repeat (first|refine blk_drewN ?_ _|refine blk_drew ?_|refine blk_alloc ?_ _));exact BK5.out) hb);have n4_:=Aside0.mk (below_step (by repeat (first|(with_reducible first|exact HB.out|apply below_alloc|apply pw_below_drewN|apply below_drew1|refine below_set ?_ GE1.out|refine below_set ?_ GE5.out)|exact HB.out)) hb);clear HO_4;clear BK1;clear BK5;clear HB;have HO_4:=n0_;have HO8:=n1_;have BK1:=n2_;have BK5:=n3_;have HB:=n4_;clear n0_ n1_ n2_ n3_ n4_;(try clear hb);(try clear hb2);(try clear hk);(try clear hi);(try clear ho0);obtain ⟨Ao16,co16,eo16⟩:=Kd.R_slice HO8.out;subst eo16))
        have n0_:=Aside0.mk (Kd.R_drew HO_4.out)
        have n1_:=Aside0.mk (Kd.R_drew HO8.out)
        have n2_:=Aside0.mk (blk_drew BK1.out)
        have n3_:=Aside0.mk (blk_drew BK5.out)
        have n4_:=Aside0.mk (below_drew1 HB.out)
        clear HO_4 HO8 BK1 BK5 HB;have HO_4:=n0_;have HO8:=n1_;have BK1:=n2_;have BK5:=n3_;have HB:=n4_;clear n0_ n1_ n2_ n3_ n4_;obtain ⟨Ao18,co18,eo18⟩:=Kd.R_slice HO_4.out
        (first|subst eo18|(injection eo18 with f1_ f2_ f3_;have f4_:=f1_.symm;have f5_:=f3_.symm;clear f1_ f2_ f3_;subst f4_;subst f5_))
        have p9:0≤(0:Int):=(by omega)
        have q9:0<(t2.length:Int):=of_decide_eq_true (by first|(with_reducible assumption)|assumption)
        obtain ⟨ad9,e9,hx9_0⟩:=Kd.at_string (Kd.R_reads' HO_4.out).2.2 0 p9 q9
        cases e9
        have qi9:(0<t2.length)=True:=eq_true (by omega)
        (try rw [show ((0:Int)).toNat=0 from rfl] at hx9_0)
        (try rw [Addr.add_zero'] at hx9_0)
        replace p9:=eq_true p9;replace q9:=eq_true q9;refine start_ (n:=8) (S:=fun w'=>w'.cell? ad9=some (.string (rdOf ByteArray.empty t2 0))) (ds:=[]) #[false,false,false,false,false,false,false,false] (by kernel_rfl) rfl rfl hx9_0 (fun hHeld=>?_);refine with_tabW narcissusref02_read.tab6 narcissusref02_read.bits6 (fun HT_ HW_=>?_)
        generalize w15.drew=w17 at HO_4 HO8 BK1 BK5 HB hx9_0 hHeld ⊢
        refine pure_ (i:=0) (N:=some 23) (v:=?_) (a':=?_) #[true,false,false,false,false,false,false,false] rfl rfl (any_of HT_.out (by kernel_rfl)) (fun _ _ _ h=>h) (Or.inl ⟨by rfl,?_⟩) ?_ ?_
        rotate_left
        ·intro w'
         go_simp
         with_reducible rfl
        rotate_left
        ·simp only [Act.put,List.setIfInBounds_toArray,List.set_cons_zero,List.set_cons_succ,i64_w,i32_w]
         rfl
        refine pure_ (i:=1) (N:=some 24) (v:=?_) (a':=?_) #[true,true,false,false,false,false,false,false] rfl rfl (any_of HT_.out (by kernel_rfl)) (fun _ _ _ h=>h) (Or.inl ⟨by rfl,?_⟩) ?_ ?_
        rotate_left
        ·intro w'
         go_simp
         with_reducible rfl
        rotate_left
        ·simp only [Act.put,List.setIfInBounds_toArray,List.set_cons_zero,List.set_cons_succ,i64_w,i32_w]
         rfl
        refine pure_ (i:=4) (N:=some 27) (v:=?_) (a':=?_) #[true,true,false,false,true,false,false,false] rfl rfl (any_of HT_.out (by kernel_rfl)) (fun _ _ _ h=>h) (Or.inl ⟨by rfl,?_⟩) ?_ ?_
        rotate_left
        ·intro w'
         go_simp
         with_reducible rfl
        rotate_left
        ·simp only [Act.put,List.setIfInBounds_toArray,List.set_cons_zero,List.set_cons_succ,i64_w,i32_w]
         rfl
        refine take_ (i:=2) (N:=some 25) (v:=?_) (a':=?_) #[true,true,true,false,true,false,false,false] rfl rfl (take_ofW HT_.out HW_.out (by kernel_rfl)) (fun _ _ _ h=>h) (Or.inl ⟨by rfl,?_⟩) hHeld ?_ ?_
        rotate_left
        ·rintro w' s0
         go_simp
         with_reducible rfl
        rotate_left
        ·simp only [Act.put,List.setIfInBounds_toArray,List.set_cons_zero,List.set_cons_succ,i64_w,i32_w]
         rfl
        refine one_ (i:=3) (N:=some 26) #[true,true,true,true,true,false,false,false] rfl rfl (one_of HT_.out (by kernel_rfl)) (by decide) (fun K hK=>?_)
        refine goes_ Tryz.func70 (by kernel_rfl) rfl #[] (by rfl) rfl rfl (by (try simp only [List.map_toArray,List.map_cons,List.map_nil]);first|done|rfl) ?_
        with_reducible refine (narcissusref02_names.calls  t10 _ A11.out).mono ?_
        rintro e w19 ⟨v11,rfl,ho0,hb⟩
        have HS0_:=(hb.cell (World.block_lt_of_cell? _ _ (hHeld))).trans (hHeld)
        refine ⟨_,rfl,?_⟩
        have n0_:=Aside0.mk (Kd.R_elder' (by (with_reducible repeat (first|apply Kd.R_alloc|apply Kd.R_drewN|apply Kd.R_drew));exact HO_4.out) (Kd.R_base ho0) hb)
        have n1_:=Aside0.mk (Kd.R_elder' (by (with_reducible repeat (first|apply Kd.R_alloc|apply Kd.R_drewN|apply Kd.R_drew));exact HO8.out) (Kd.R_base ho0) hb)
        have n2_:=Aside0.mk (Kd.R_lower (Kd.R_new' (Kd.R_new' ho0 (Kd.R_lt (by (with_reducible repeat (first|apply Kd.R_alloc|apply Kd.R_drewN|apply Kd.R_drew));exact HO_4.out))) (Kd.R_lt (by (with_reducible repeat (first|apply Kd.R_alloc|apply Kd.R_drewN|apply Kd.R_drew));exact HO8.out))) (below_size (by repeat (first|(with_reducible first|exact HB.out|apply below_alloc|apply pw_below_drewN|apply below_drew1|refine below_set ?_ GE1.out|refine below_set ?_ GE5.out)|exact HB.out))))
        have n3_:=Aside0.mk (blk_below (g:=gb1) (o:=.cells #[.int .i64 0,.int .i64 0,.int .i64 0,.int .i64 0,.string (⟨#[]⟩:ByteArray)] 42 (0,0)) (by (with_reducible repeat (first|refine blk_drewN ?_ _|refine blk_drew ?_|refine blk_alloc ?_ _));exact BK1.out) hb)
        have n4_:=Aside0.mk (blk_below (g:=gb5) (o:=.cells #[.int .i64 x6000_1,.int .i64 0,.int .i64 0,.int .i64 0,.string (⟨#[]⟩:ByteArray)] 42 (0,0)) (by (with_reducible repeat (first|refine blk_drewN ?_ _|refine blk_drew ?_|refine blk_alloc ?_ _));exact BK5.out) hb)
        have n5_:=Aside0.mk (below_step (by repeat (first|(with_reducible first|exact HB.out|apply below_alloc|apply pw_below_drewN|apply below_drew1|refine below_set ?_ GE1.out|refine below_set ?_ GE5.out)|exact HB.out)) hb)
        clear HO_4 HO8 BK1 BK5 HB;have HO_4:=n0_;have HO8:=n1_;have HO12:=n2_;have BK1:=n3_;have BK5:=n4_;have HB:=n5_;clear n0_ n1_ n2_ n3_ n4_ n5_;(try clear hb)
        (try clear hb2)
        (try clear hk)
        (try clear hi)
        (try clear ho0)
        obtain ⟨Ao20,co20,eo20⟩:=Kd.R_slice HO12.out
        (first|subst eo20|(injection eo20 with f1_ f2_ f3_;have f4_:=f1_.symm;have f5_:=f3_.symm;clear f1_ f2_ f3_;subst f4_;subst f5_))
        have p13:0≤(x6_1:Int):=of_decide_eq_true (by first|(with_reducible assumption)|assumption)
        have q13:x6_1<(t10.length:Int):=of_decide_eq_true (by first|(with_reducible assumption)|assumption)
        obtain ⟨ad13,e13,hx13_0⟩:=Kd.at_string (Kd.R_reads' HO12.out).2.2 x6_1 p13 q13
        cases e13
        replace p13:=eq_true p13;replace q13:=eq_true q13;refine hK.out _ _ HS0_ (fun hHeld=>?_)
        clear hK K;refine norm_ (a':=?_) ?_ ?_
        rotate_left
        ·show Act.put _ (some 26) _=_
         simp only [Act.put,List.setIfInBounds_toArray,List.set_cons_zero,List.set_cons_succ,i64_w,i32_w]
         rfl
        clear hHeld;refine restart38_ (S':=fun w'=>w'.cell? ad9=some (.string (rdOf ByteArray.empty t2 0))∧w'.cell? (ad13.add (x6_1).toNat)=some (.string (rdOf ByteArray.empty t10 x6_1))) (fun _ h=>h.1) _ _ _ _ ⟨HS0_,hx13_0⟩ (fun hHeld=>?_)
        refine pure_ (i:=5) (N:=some 28) (v:=?_) (a':=?_) #[true,true,true,true,true,true,false,false] rfl rfl (any_of HT_.out (by kernel_rfl)) (fun _ _ _ h=>h) (Or.inl ⟨by rfl,?_⟩) ?_ ?_
        rotate_left
        ·intro w'
         go_simp
         with_reducible rfl
        rotate_left
        ·simp only [Act.put,List.setIfInBounds_toArray,List.set_cons_zero,List.set_cons_succ,i64_w,i32_w]
         rfl
        refine take_ (i:=6) (N:=some 29) (v:=?_) (a':=?_) #[true,true,true,true,true,true,true,false] rfl rfl (take_ofW HT_.out HW_.out (by kernel_rfl)) (fun _ _ _ h=>h) (Or.inl ⟨by rfl,?_⟩) hHeld ?_ ?_
        rotate_left
        ·rintro w' ⟨s0,s1⟩
         go_simp
         with_reducible rfl
        rotate_left
        ·simp only [Act.put,List.setIfInBounds_toArray,List.set_cons_zero,List.set_cons_succ,i64_w,i32_w]
         rfl
        refine pure_ (i:=7) (N:=some 30) (v:=?_) (a':=?_) #[true,true,true,true,true,true,true,true] rfl rfl (any_of HT_.out (by kernel_rfl)) (fun _ _ _ h=>h) (Or.inl ⟨by rfl,?_⟩) ?_ ?_
        rotate_left
        ·intro w'
         go_simp
         with_reducible rfl
        rotate_left
        ·simp only [Act.put,List.setIfInBounds_toArray,List.set_cons_zero,List.set_cons_succ,i64_w,i32_w]
         rfl
        refine done_ (done_of HT_.out (by kernel_rfl)) ?_
        have hnb21:=NB5_1.out
        have hnc21:=NB1_5.out
        have hcz22_0:w19.cell? ⟨gb5,0,none⟩=some (.int .i64 x6000_1):=(blk_cell BK5.out 0).trans rfl
        have hcz22_1:w19.cell? ⟨gb5,1,none⟩=some (.int .i64 0):=(blk_cell BK5.out 1).trans rfl
        have hcz22_2:w19.cell? ⟨gb5,2,none⟩=some (.int .i64 0):=(blk_cell BK5.out 2).trans rfl
        have hcz22_3:w19.cell? ⟨gb5,3,none⟩=some (.int .i64 0):=(blk_cell BK5.out 3).trans rfl
        have hcz22_4:w19.cell? ⟨gb5,4,none⟩=some (.string (⟨#[]⟩:ByteArray)):=(blk_cell BK5.out 4).trans rfl
        have hfz22_0:=blk_frozen BK5.out 0
        have hfz22_1:=blk_frozen BK5.out 1
        have hfz22_2:=blk_frozen BK5.out 2
        have hfz22_3:=blk_frozen BK5.out 3
        have hfz22_4:=blk_frozen BK5.out 4
        try go_wp2
        go_roundg k1
        case measure=>have:=HK1.out;omega
        case rel=>exact ⟨(wrap64 (x6_1+1)),(x6_1),(by first|rfl|(simp;done)|(simp [*];done)),H',⟨by have:=HK1.out;omega⟩,⟨by (with_reducible repeat (first|apply Kd.R_alloc|apply Kd.R_drewN|apply Kd.R_drew));exact Kd.R_mono (Kd.R_far (p:=⟨gb5,0,none⟩) (Kd.R_types HO_4.out BK5.out (by decide)) (fun _ hk=>hk.2) (.int .i64 x6_1)) (fun _ hk=>trivial)⟩,⟨by (with_reducible repeat (first|refine blk_drewN ?_ _|refine blk_drew ?_|refine blk_alloc ?_ _));refine blk_far ?_ NB1_5.out _;(with_reducible repeat (first|refine blk_drewN ?_ _|refine blk_drew ?_|refine blk_alloc ?_ _));exact BK1.out⟩,⟨by (with_reducible repeat (first|refine blk_drewN ?_ _|refine blk_drew ?_|refine blk_alloc ?_ _));refine blk_put (cs:=#[.int .i64 x6000_1,.int .i64 0,.int .i64 0,.int .i64 0,.string (⟨#[]⟩:ByteArray)]) ?_ 0 _ rfl;(with_reducible repeat (first|refine blk_drewN ?_ _|refine blk_drew ?_|refine blk_alloc ?_ _));exact BK5.out⟩,⟨by repeat (first|(with_reducible first|exact HB.out|apply below_alloc|apply pw_below_drewN|apply below_drew1|refine below_set ?_ GE1.out|refine below_set ?_ GE5.out)|exact HB.out)⟩⟩
       ·rw [if_neg c14] at H
        have c14b0:((rdOf ByteArray.empty t2 0).toList == (rdOf ByteArray.empty t10 x6_1).toList)=false:=beq_eq_false_iff_ne.mpr c14
        have c14b1:((rdOf ByteArray.empty t2 0).toList != (rdOf ByteArray.empty t10 x6_1).toList)=true:=bne_iff_ne.mpr c14
        have H':=Aside0.mk H
        clear H;try go_wp2_with (first|((with_reducible refine gate_callee (f:=70) rfl ?_);refine goesL_ (some 18) rfl rfl Tryz.func70 (by kernel_rfl) rfl #[] rfl (by (try simp only [List.map_toArray,List.map_cons,List.map_nil]);first|done|rfl) ?_;(with_reducible refine (narcissusref02_names.calls  t6 _ A8.out).mono ?_);rintro e w23 ⟨v7,rfl,ho0,hb⟩;refine ⟨_,rfl,?_⟩;have n0_:=Aside0.mk (Kd.R_elder' (by (with_reducible repeat (first|apply Kd.R_alloc|apply Kd.R_drewN|apply Kd.R_drew));exact HO_4.out) (Kd.R_base ho0) hb);have n1_:=Aside0.mk (Kd.R_lower (Kd.R_new' ho0 (Kd.R_lt (by (with_reducible repeat (first|apply Kd.R_alloc|apply Kd.R_drewN|apply Kd.R_drew));exact HO_4.out))) (below_size (by repeat (first|(with_reducible first|exact HB.out|apply below_alloc|apply pw_below_drewN|apply below_drew1|refine below_set ?_ GE1.out|refine below_set ?_ GE5.out)|exact HB.out))));have n2_:=Aside0.mk (blk_below (g:=gb1) (o:=.cells #[.int .i64 0,.int .i64 0,.int .i64 0,.int .i64 0,.string (⟨#[]⟩:ByteArray)] 42 (0,0)) (by (with_reducible repeat (first|refine blk_drewN ?_ _|refine blk_drew ?_|refine blk_alloc ?_ _));exact BK1.out) hb);have n3_:=Aside0.mk (blk_below (g:=gb5) (o:=.cells #[.int .i64 x6000_1,.int .i64 0,.int .i64 0,.int .i64 0,.string (⟨#[]⟩:ByteArray)] 42 (0,0)) (by (with_reducible repeat (first|refine blk_drewN ?_ _|refine blk_drew ?_|refine blk_alloc ?_ _));exact BK5.out) hb);have n4_:=Aside0.mk (below_step (by repeat (first|(with_reducible first|exact HB.out|apply below_alloc|apply pw_below_drewN|apply below_drew1|refine below_set ?_ GE1.out|refine below_set ?_ GE5.out)|exact HB.out)) hb);clear HO_4;clear BK1;clear BK5;clear HB;have HO_4:=n0_;have HO8:=n1_;have BK1:=n2_;have BK5:=n3_;have HB:=n4_;clear n0_ n1_ n2_ n3_ n4_;(try clear hb);(try clear hb2);(try clear hk);(try clear hi);(try clear ho0);obtain ⟨Ao24,co24,eo24⟩:=Kd.R_slice HO8.out;subst eo24))
        have n0_:=Aside0.mk (Kd.R_drew HO_4.out)
        have n1_:=Aside0.mk (Kd.R_drew HO8.out)
        have n2_:=Aside0.mk (blk_drew BK1.out)
        have n3_:=Aside0.mk (blk_drew BK5.out)
        have n4_:=Aside0.mk (below_drew1 HB.out)
        clear HO_4 HO8 BK1 BK5 HB;have HO_4:=n0_;have HO8:=n1_;have BK1:=n2_;have BK5:=n3_;have HB:=n4_;clear n0_ n1_ n2_ n3_ n4_;obtain ⟨Ao26,co26,eo26⟩:=Kd.R_slice HO_4.out
        (first|subst eo26|(injection eo26 with f1_ f2_ f3_;have f4_:=f1_.symm;have f5_:=f3_.symm;clear f1_ f2_ f3_;subst f4_;subst f5_))
        have p9:0≤(0:Int):=(by omega)
        have q9:0<(t2.length:Int):=of_decide_eq_true (by first|(with_reducible assumption)|assumption)
        obtain ⟨ad9,e9,hx9_0⟩:=Kd.at_string (Kd.R_reads' HO_4.out).2.2 0 p9 q9
        cases e9
        have qi9:(0<t2.length)=True:=eq_true (by omega)
        (try rw [show ((0:Int)).toNat=0 from rfl] at hx9_0)
        (try rw [Addr.add_zero'] at hx9_0)
        replace p9:=eq_true p9;replace q9:=eq_true q9;refine start_ (n:=8) (S:=fun w'=>w'.cell? ad9=some (.string (rdOf ByteArray.empty t2 0))) (ds:=[]) #[false,false,false,false,false,false,false,false] (by kernel_rfl) rfl rfl hx9_0 (fun hHeld=>?_);refine with_tabW narcissusref02_read.tab6 narcissusref02_read.bits6 (fun HT_ HW_=>?_)
        generalize w23.drew=w25 at HO_4 HO8 BK1 BK5 HB hx9_0 hHeld ⊢
        refine pure_ (i:=0) (N:=some 23) (v:=?_) (a':=?_) #[true,false,false,false,false,false,false,false] rfl rfl (any_of HT_.out (by kernel_rfl)) (fun _ _ _ h=>h) (Or.inl ⟨by rfl,?_⟩) ?_ ?_
        rotate_left
        ·intro w'
         go_simp
         with_reducible rfl
        rotate_left
        ·simp only [Act.put,List.setIfInBounds_toArray,List.set_cons_zero,List.set_cons_succ,i64_w,i32_w]
         rfl
        refine pure_ (i:=1) (N:=some 24) (v:=?_) (a':=?_) #[true,true,false,false,false,false,false,false] rfl rfl (any_of HT_.out (by kernel_rfl)) (fun _ _ _ h=>h) (Or.inl ⟨by rfl,?_⟩) ?_ ?_
        rotate_left
        ·intro w'
         go_simp
         with_reducible rfl
        rotate_left
        ·simp only [Act.put,List.setIfInBounds_toArray,List.set_cons_zero,List.set_cons_succ,i64_w,i32_w]
         rfl
        refine pure_ (i:=4) (N:=some 27) (v:=?_) (a':=?_) #[true,true,false,false,true,false,false,false] rfl rfl (any_of HT_.out (by kernel_rfl)) (fun _ _ _ h=>h) (Or.inl ⟨by rfl,?_⟩) ?_ ?_
        rotate_left
        ·intro w'
         go_simp
         with_reducible rfl
        rotate_left
        ·simp only [Act.put,List.setIfInBounds_toArray,List.set_cons_zero,List.set_cons_succ,i64_w,i32_w]
         rfl
        refine take_ (i:=2) (N:=some 25) (v:=?_) (a':=?_) #[true,true,true,false,true,false,false,false] rfl rfl (take_ofW HT_.out HW_.out (by kernel_rfl)) (fun _ _ _ h=>h) (Or.inl ⟨by rfl,?_⟩) hHeld ?_ ?_
        rotate_left
        ·rintro w' s0
         go_simp
         with_reducible rfl
        rotate_left
        ·simp only [Act.put,List.setIfInBounds_toArray,List.set_cons_zero,List.set_cons_succ,i64_w,i32_w]
         rfl
        refine one_ (i:=3) (N:=some 26) #[true,true,true,true,true,false,false,false] rfl rfl (one_of HT_.out (by kernel_rfl)) (by decide) (fun K hK=>?_)
        refine goes_ Tryz.func70 (by kernel_rfl) rfl #[] (by rfl) rfl rfl (by (try simp only [List.map_toArray,List.map_cons,List.map_nil]);first|done|rfl) ?_
        with_reducible refine (narcissusref02_names.calls  t10 _ A11.out).mono ?_
        rintro e w27 ⟨v11,rfl,ho0,hb⟩
        have HS0_:=(hb.cell (World.block_lt_of_cell? _ _ (hHeld))).trans (hHeld)
        refine ⟨_,rfl,?_⟩
        have n0_:=Aside0.mk (Kd.R_elder' (by (with_reducible repeat (first|apply Kd.R_alloc|apply Kd.R_drewN|apply Kd.R_drew));exact HO_4.out) (Kd.R_base ho0) hb)
        have n1_:=Aside0.mk (Kd.R_elder' (by (with_reducible repeat (first|apply Kd.R_alloc|apply Kd.R_drewN|apply Kd.R_drew));exact HO8.out) (Kd.R_base ho0) hb)
        have n2_:=Aside0.mk (Kd.R_lower (Kd.R_new' (Kd.R_new' ho0 (Kd.R_lt (by (with_reducible repeat (first|apply Kd.R_alloc|apply Kd.R_drewN|apply Kd.R_drew));exact HO_4.out))) (Kd.R_lt (by (with_reducible repeat (first|apply Kd.R_alloc|apply Kd.R_drewN|apply Kd.R_drew));exact HO8.out))) (below_size (by repeat (first|(with_reducible first|exact HB.out|apply below_alloc|apply pw_below_drewN|apply below_drew1|refine below_set ?_ GE1.out|refine below_set ?_ GE5.out)|exact HB.out))))
        have n3_:=Aside0.mk (blk_below (g:=gb1) (o:=.cells #[.int .i64 0,.int .i64 0,.int .i64 0,.int .i64 0,.string (⟨#[]⟩:ByteArray)] 42 (0,0)) (by (with_reducible repeat (first|refine blk_drewN ?_ _|refine blk_drew ?_|refine blk_alloc ?_ _));exact BK1.out) hb)
        have n4_:=Aside0.mk (blk_below (g:=gb5) (o:=.cells #[.int .i64 x6000_1,.int .i64 0,.int .i64 0,.int .i64 0,.string (⟨#[]⟩:ByteArray)] 42 (0,0)) (by (with_reducible repeat (first|refine blk_drewN ?_ _|refine blk_drew ?_|refine blk_alloc ?_ _));exact BK5.out) hb)
        have n5_:=Aside0.mk (below_step (by repeat (first|(with_reducible first|exact HB.out|apply below_alloc|apply pw_below_drewN|apply below_drew1|refine below_set ?_ GE1.out|refine below_set ?_ GE5.out)|exact HB.out)) hb)
        clear HO_4 HO8 BK1 BK5 HB;have HO_4:=n0_;have HO8:=n1_;have HO12:=n2_;have BK1:=n3_;have BK5:=n4_;have HB:=n5_;clear n0_ n1_ n2_ n3_ n4_ n5_;(try clear hb)
        (try clear hb2)
        (try clear hk)
        (try clear hi)
        (try clear ho0)
        obtain ⟨Ao28,co28,eo28⟩:=Kd.R_slice HO12.out
        (first|subst eo28|(injection eo28 with f1_ f2_ f3_;have f4_:=f1_.symm;have f5_:=f3_.symm;clear f1_ f2_ f3_;subst f4_;subst f5_))
        have p13:0≤(x6_1:Int):=of_decide_eq_true (by first|(with_reducible assumption)|assumption)
        have q13:x6_1<(t10.length:Int):=of_decide_eq_true (by first|(with_reducible assumption)|assumption)
        obtain ⟨ad13,e13,hx13_0⟩:=Kd.at_string (Kd.R_reads' HO12.out).2.2 x6_1 p13 q13
        cases e13
        replace p13:=eq_true p13;replace q13:=eq_true q13;refine hK.out _ _ HS0_ (fun hHeld=>?_)
        clear hK K;refine norm_ (a':=?_) ?_ ?_
        rotate_left
        ·show Act.put _ (some 26) _=_
         simp only [Act.put,List.setIfInBounds_toArray,List.set_cons_zero,List.set_cons_succ,i64_w,i32_w]
         rfl
        clear hHeld;refine restart38_ (S':=fun w'=>w'.cell? ad9=some (.string (rdOf ByteArray.empty t2 0))∧w'.cell? (ad13.add (x6_1).toNat)=some (.string (rdOf ByteArray.empty t10 x6_1))) (fun _ h=>h.1) _ _ _ _ ⟨HS0_,hx13_0⟩ (fun hHeld=>?_)
        refine pure_ (i:=5) (N:=some 28) (v:=?_) (a':=?_) #[true,true,true,true,true,true,false,false] rfl rfl (any_of HT_.out (by kernel_rfl)) (fun _ _ _ h=>h) (Or.inl ⟨by rfl,?_⟩) ?_ ?_
        rotate_left
        ·intro w'
         go_simp
         with_reducible rfl
        rotate_left
        ·simp only [Act.put,List.setIfInBounds_toArray,List.set_cons_zero,List.set_cons_succ,i64_w,i32_w]
         rfl
        refine take_ (i:=6) (N:=some 29) (v:=?_) (a':=?_) #[true,true,true,true,true,true,true,false] rfl rfl (take_ofW HT_.out HW_.out (by kernel_rfl)) (fun _ _ _ h=>h) (Or.inl ⟨by rfl,?_⟩) hHeld ?_ ?_
        rotate_left
        ·rintro w' ⟨s0,s1⟩
         go_simp
         with_reducible rfl
        rotate_left
        ·simp only [Act.put,List.setIfInBounds_toArray,List.set_cons_zero,List.set_cons_succ,i64_w,i32_w]
         rfl
        refine pure_ (i:=7) (N:=some 30) (v:=?_) (a':=?_) #[true,true,true,true,true,true,true,true] rfl rfl (any_of HT_.out (by kernel_rfl)) (fun _ _ _ h=>h) (Or.inl ⟨by rfl,?_⟩) ?_ ?_
        rotate_left
        ·intro w'
         go_simp
         with_reducible rfl
        rotate_left
        ·simp only [Act.put,List.setIfInBounds_toArray,List.set_cons_zero,List.set_cons_succ,i64_w,i32_w]
         rfl
        refine done_ (done_of HT_.out (by kernel_rfl)) ?_
        try go_wp2
        go_roundg k1
        case measure=>have:=HK1.out;omega
        case rel=>exact ⟨(wrap64 (x6_1+1)),(x6000_1),(by first|rfl|(simp;done)|(simp [*];done)),H',⟨by have:=HK1.out;omega⟩,⟨by (with_reducible repeat (first|apply Kd.R_alloc|apply Kd.R_drewN|apply Kd.R_drew));exact Kd.R_mono HO_4.out (fun _ hk=>trivial)⟩,⟨by (with_reducible repeat (first|refine blk_drewN ?_ _|refine blk_drew ?_|refine blk_alloc ?_ _));exact BK1.out⟩,⟨by (with_reducible repeat (first|refine blk_drewN ?_ _|refine blk_drew ?_|refine blk_alloc ?_ _));exact BK5.out⟩,⟨by repeat (first|(with_reducible first|exact HB.out|apply below_alloc|apply pw_below_drewN|apply below_drew1|refine below_set ?_ GE1.out|refine below_set ?_ GE5.out)|exact HB.out)⟩⟩
      ·rw [if_neg c13] at H
       exact absurd H (by simp)
     ·rw [if_neg c12] at H
      exact absurd H (by simp)
    ·rw [if_neg c10] at H
     exact absurd H (by simp)
   ·rw [if_neg c9] at H
    have c9b0:decide (x6_1<(t6.length:Int))=false:=decide_eq_false c9
    clear c9;have HC29:=Aside0.mk H
    clear H;go_upto_if 35 with (first|((with_reducible refine gate_callee (f:=70) rfl ?_);refine goesL_ (some 18) rfl rfl Tryz.func70 (by kernel_rfl) rfl #[] rfl (by (try simp only [List.map_toArray,List.map_cons,List.map_nil]);first|done|rfl) ?_;(with_reducible refine (narcissusref02_names.calls  t6 _ A8.out).mono ?_);rintro e w30 ⟨v7,rfl,ho0,hb⟩;refine ⟨_,rfl,?_⟩;have n0_:=Aside0.mk (Kd.R_elder' (by (with_reducible repeat (first|apply Kd.R_alloc|apply Kd.R_drewN|apply Kd.R_drew));exact HO_4.out) (Kd.R_base ho0) hb);have n1_:=Aside0.mk (Kd.R_lower (Kd.R_new' ho0 (Kd.R_lt (by (with_reducible repeat (first|apply Kd.R_alloc|apply Kd.R_drewN|apply Kd.R_drew));exact HO_4.out))) (below_size (by repeat (first|(with_reducible first|exact HB.out|apply below_alloc|apply pw_below_drewN|apply below_drew1|refine below_set ?_ GE1.out|refine below_set ?_ GE5.out)|exact HB.out))));have n2_:=Aside0.mk (blk_below (g:=gb1) (o:=.cells #[.int .i64 0,.int .i64 0,.int .i64 0,.int .i64 0,.string (⟨#[]⟩:ByteArray)] 42 (0,0)) (by (with_reducible repeat (first|refine blk_drewN ?_ _|refine blk_drew ?_|refine blk_alloc ?_ _));exact BK1.out) hb);have n3_:=Aside0.mk (blk_below (g:=gb5) (o:=.cells #[.int .i64 x6000_1,.int .i64 0,.int .i64 0,.int .i64 0,.string (⟨#[]⟩:ByteArray)] 42 (0,0)) (by (with_reducible repeat (first|refine blk_drewN ?_ _|refine blk_drew ?_|refine blk_alloc ?_ _));exact BK5.out) hb);have n4_:=Aside0.mk (below_step (by repeat (first|(with_reducible first|exact HB.out|apply below_alloc|apply pw_below_drewN|apply below_drew1|refine below_set ?_ GE1.out|refine below_set ?_ GE5.out)|exact HB.out)) hb);clear HO_4;clear BK1;clear BK5;clear HB;have HO_4:=n0_;have HO8:=n1_;have BK1:=n2_;have BK5:=n3_;have HB:=n4_;clear n0_ n1_ n2_ n3_ n4_;(try clear hb);(try clear hb2);(try clear hk);(try clear hi);(try clear ho0);obtain ⟨Ao31,co31,eo31⟩:=Kd.R_slice HO8.out;subst eo31;have hnb32:=NB5_1.out;have hnc32:=NB1_5.out;have hcz33_0:w30.cell? ⟨gb5,0,none⟩=some (.int .i64 x6000_1):=(blk_cell BK5.out 0).trans rfl;have hcz33_1:w30.cell? ⟨gb5,1,none⟩=some (.int .i64 0):=(blk_cell BK5.out 1).trans rfl;have hcz33_2:w30.cell? ⟨gb5,2,none⟩=some (.int .i64 0):=(blk_cell BK5.out 2).trans rfl;have hcz33_3:w30.cell? ⟨gb5,3,none⟩=some (.int .i64 0):=(blk_cell BK5.out 3).trans rfl;have hcz33_4:w30.cell? ⟨gb5,4,none⟩=some (.string (⟨#[]⟩:ByteArray)):=(blk_cell BK5.out 4).trans rfl;have hfz33_0:=blk_frozen BK5.out 0;have hfz33_1:=blk_frozen BK5.out 1;have hfz33_2:=blk_frozen BK5.out 2;have hfz33_3:=blk_frozen BK5.out 3;have hfz33_4:=blk_frozen BK5.out 4))
    (try simp only [Act.put,List.setIfInBounds_toArray,List.set_cons_zero,List.set_cons_succ])
    go_cut [7] (fun v7 wc => ∃ (kq:Nat) (x7_28:Int),v7 = .int .i64 x7_28∧Aside0 (narcissusref02_read.j1 kq t2 x7_28 x6000_1 0 0 0 (⟨#[]⟩:ByteArray)=some (r1,r2,r3,r4,r5,r6))∧Aside0 (kq≤k1)∧Aside0 (Kd.R Kd.string 9 wc w.heap.size (fun _=>True) v3 t2)∧Aside0 (wc.heap[gb1]? = some (.cells #[.int .i64 0,.int .i64 0,.int .i64 0,.int .i64 0,.string (⟨#[]⟩:ByteArray)] 42 (0,0)))∧Aside0 (wc.heap[gb5]? = some (.cells #[.int .i64 x6000_1,.int .i64 0,.int .i64 0,.int .i64 0,.string (⟨#[]⟩:ByteArray)] 42 (0,0)))∧Aside0 (Below w.heap.size w wc))
    case first =>
     have H:=HC29.out
     clear HC29;by_cases c34:x6000_1=2
     ·rw [if_pos c34] at H
      have c34b0:(x6000_1 == 2)=true:=beq_iff_eq.mpr c34
      have c34b1:(x6000_1 != 2)=false:=bne_eq_false_iff_eq.mpr c34
      clear c34;(first|rw [c34b0]|(simp only [i64_w,i32_w];rw [c34b0])|skip)
      have H':=Aside0.mk H
      clear H;go_wp2
      go_meet
      case rel=>exact ⟨_,(4),(by first|rfl|(simp;done)|(simp [*];done)),H',⟨by have:=HK1.out;first|omega|exact Nat.le_refl _⟩,⟨by (with_reducible repeat (first|apply Kd.R_alloc|apply Kd.R_drewN|apply Kd.R_drew));exact Kd.R_mono HO_4.out (fun _ hk=>trivial)⟩,⟨by (with_reducible repeat (first|refine blk_drewN ?_ _|refine blk_drew ?_|refine blk_alloc ?_ _));exact BK1.out⟩,⟨by (with_reducible repeat (first|refine blk_drewN ?_ _|refine blk_drew ?_|refine blk_alloc ?_ _));exact BK5.out⟩,⟨by repeat (first|(with_reducible first|exact HB.out|apply below_alloc|apply pw_below_drewN|apply below_drew1|refine below_set ?_ GE1.out|refine below_set ?_ GE5.out)|exact HB.out)⟩⟩
     ·rw [if_neg c34] at H
      have c34b0:(x6000_1 == 2)=false:=beq_eq_false_iff_ne.mpr c34
      have c34b1:(x6000_1 != 2)=true:=bne_iff_ne.mpr c34
      (first|rw [c34b0]|(simp only [i64_w,i32_w];rw [c34b0])|skip)
      have H':=Aside0.mk H
      clear H;go_wp2
      go_meet
      case rel=>exact ⟨_,(3),(by first|rfl|(simp;done)|(simp [*];done)),H',⟨by have:=HK1.out;first|omega|exact Nat.le_refl _⟩,⟨by (with_reducible repeat (first|apply Kd.R_alloc|apply Kd.R_drewN|apply Kd.R_drew));exact Kd.R_mono HO_4.out (fun _ hk=>trivial)⟩,⟨by (with_reducible repeat (first|refine blk_drewN ?_ _|refine blk_drew ?_|refine blk_alloc ?_ _));exact BK1.out⟩,⟨by (with_reducible repeat (first|refine blk_drewN ?_ _|refine blk_drew ?_|refine blk_alloc ?_ _));exact BK5.out⟩,⟨by repeat (first|(with_reducible first|exact HB.out|apply below_alloc|apply pw_below_drewN|apply below_drew1|refine below_set ?_ GE1.out|refine below_set ?_ GE5.out)|exact HB.out)⟩⟩
    case rest =>
     clear HC29;try clear c1
     try clear p1
     try clear q1
     try clear hx1
     try clear c2
     try clear p2
     try clear c3
     try clear c6
     try clear p6
     try clear c7
     try clear c9
     try clear c9b0
     try clear p9
     try clear q9
     try clear hx9
     try clear qi9
     try clear c10
     try clear c10b0
     try clear c10b1
     try clear c12
     try clear c12b0
     try clear c13
     try clear c13b0
     try clear p13
     try clear q13
     try clear hx13
     try clear c14
     try clear c14b0
     try clear c14b1
     try clear c21
     try clear c32
     try clear c34
     try clear c34b0
     try clear c34b1
     try clear hcz22_0
     try clear hcz22_1
     try clear hcz22_2
     try clear hcz22_3
     try clear hcz22_4
     try clear hcz33_0
     try clear hcz33_1
     try clear hcz33_2
     try clear hcz33_3
     try clear hcz33_4
     try clear hcz7_0
     try clear hcz7_1
     try clear hcz7_2
     try clear hcz7_3
     try clear hcz7_4
     try clear hfz22_0
     try clear hfz22_1
     try clear hfz22_2
     try clear hfz22_3
     try clear hfz22_4
     try clear hfz33_0
     try clear hfz33_1
     try clear hfz33_2
     try clear hfz33_3
     try clear hfz33_4
     try clear hfz7_0
     try clear hfz7_1
     try clear hfz7_2
     try clear hfz7_3
     try clear hfz7_4
     try clear hx13_0
     try clear hx9_0
     try clear p13
     try clear p2
     try clear p9
     try clear q13
     try clear q9
     obtain ⟨kq,x7_28,rfl,HA,HJ28,HO_4,BK1,BK5,HB⟩:=hcut
     cases kq with
     | zero=>exact absurd HA.out (by simp [narcissusref02_read.j1])
     | succ kj28 =>
      have H:=HA.out
      clear HA;simp only [narcissusref02_read.j1] at H
      have HC35:=Aside0.mk H
      clear H;go_upto_region 11 with (fail)
      go_cut [44] (fun v44 wc => ∃ (kq:Nat) (x44_34:Bool),v44 = .bool x44_34∧Aside0 (narcissusref02_read.j2 kq t2 x44_34 x6000_1 0 0 0 (⟨#[]⟩:ByteArray)=some (r1,r2,r3,r4,r5,r6))∧Aside0 (kq≤kj28)∧Aside0 (Kd.R Kd.string 9 wc w.heap.size (fun _=>True) v3 t2)∧Aside0 (wc.heap[gb1]? = some (.cells #[.int .i64 0,.int .i64 0,.int .i64 0,.int .i64 0,.string (⟨#[]⟩:ByteArray)] 42 (0,0)))∧Aside0 (wc.heap[gb5]? = some (.cells #[.int .i64 x6000_1,.int .i64 0,.int .i64 0,.int .i64 0,.string (⟨#[]⟩:ByteArray)] 42 (0,0)))∧Aside0 (Below w.heap.size w wc))
      case first =>
       have H:=HC35.out
       clear HC35;by_cases c36:x6000_1<0
       ·rw [if_pos c36] at H
        have c36b0:decide (x6000_1<0)=true:=decide_eq_true c36
        clear c36;(first|rw [c36b0]|(simp only [i64_w,i32_w];rw [c36b0])|skip)
        have H':=Aside0.mk H
        clear H;have hnb37:=NB5_1.out
        have hnc37:=NB1_5.out
        have hcz38_0:wc.cell? ⟨gb5,0,none⟩=some (.int .i64 x6000_1):=(blk_cell BK5.out 0).trans rfl
        have hcz38_1:wc.cell? ⟨gb5,1,none⟩=some (.int .i64 0):=(blk_cell BK5.out 1).trans rfl
        have hcz38_2:wc.cell? ⟨gb5,2,none⟩=some (.int .i64 0):=(blk_cell BK5.out 2).trans rfl
        have hcz38_3:wc.cell? ⟨gb5,3,none⟩=some (.int .i64 0):=(blk_cell BK5.out 3).trans rfl
        have hcz38_4:wc.cell? ⟨gb5,4,none⟩=some (.string (⟨#[]⟩:ByteArray)):=(blk_cell BK5.out 4).trans rfl
        have hfz38_0:=blk_frozen BK5.out 0
        have hfz38_1:=blk_frozen BK5.out 1
        have hfz38_2:=blk_frozen BK5.out 2
        have hfz38_3:=blk_frozen BK5.out 3
        have hfz38_4:=blk_frozen BK5.out 4
        go_wp2
        go_meet
        case rel=>exact ⟨_,(true),(by first|rfl|(simp;done)|(simp [*];done)),H',⟨by have:=HK1.out;have:=HJ28.out;first|omega|exact Nat.le_refl _⟩,⟨by (with_reducible repeat (first|apply Kd.R_alloc|apply Kd.R_drewN|apply Kd.R_drew));exact HO_4.out⟩,⟨by (with_reducible repeat (first|refine blk_drewN ?_ _|refine blk_drew ?_|refine blk_alloc ?_ _));exact BK1.out⟩,⟨by (with_reducible repeat (first|refine blk_drewN ?_ _|refine blk_drew ?_|refine blk_alloc ?_ _));exact BK5.out⟩,⟨by repeat (first|(with_reducible first|exact HB.out|apply below_alloc|apply pw_below_drewN|apply below_drew1|refine below_set ?_ GE1.out|refine below_set ?_ GE5.out)|exact HB.out)⟩⟩
       ·rw [if_neg c36] at H
        have c36b0:decide (x6000_1<0)=false:=decide_eq_false c36
        clear c36;(first|rw [c36b0]|(simp only [i64_w,i32_w];rw [c36b0])|skip)
        have H':=Aside0.mk H
        clear H;have hnb39:=NB5_1.out
        have hnc39:=NB1_5.out
        have hcz40_0:wc.cell? ⟨gb5,0,none⟩=some (.int .i64 x6000_1):=(blk_cell BK5.out 0).trans rfl
        have hcz40_1:wc.cell? ⟨gb5,1,none⟩=some (.int .i64 0):=(blk_cell BK5.out 1).trans rfl
        have hcz40_2:wc.cell? ⟨gb5,2,none⟩=some (.int .i64 0):=(blk_cell BK5.out 2).trans rfl
        have hcz40_3:wc.cell? ⟨gb5,3,none⟩=some (.int .i64 0):=(blk_cell BK5.out 3).trans rfl
        have hcz40_4:wc.cell? ⟨gb5,4,none⟩=some (.string (⟨#[]⟩:ByteArray)):=(blk_cell BK5.out 4).trans rfl
        have hfz40_0:=blk_frozen BK5.out 0
        have hfz40_1:=blk_frozen BK5.out 1
        have hfz40_2:=blk_frozen BK5.out 2
        have hfz40_3:=blk_frozen BK5.out 3
        have hfz40_4:=blk_frozen BK5.out 4
        obtain ⟨Ao41,co41,eo41⟩:=Kd.R_slice HO_4.out
        subst eo41;go_wp2
        go_meet
        case rel=>exact ⟨_,(((t2.length:Int) != x7_28)),(by first|rfl|(simp;done)|(simp [*];done)),H',⟨by have:=HK1.out;have:=HJ28.out;first|omega|exact Nat.le_refl _⟩,⟨by (with_reducible repeat (first|apply Kd.R_alloc|apply Kd.R_drewN|apply Kd.R_drew));exact HO_4.out⟩,⟨by (with_reducible repeat (first|refine blk_drewN ?_ _|refine blk_drew ?_|refine blk_alloc ?_ _));exact BK1.out⟩,⟨by (with_reducible repeat (first|refine blk_drewN ?_ _|refine blk_drew ?_|refine blk_alloc ?_ _));exact BK5.out⟩,⟨by repeat (first|(with_reducible first|exact HB.out|apply below_alloc|apply pw_below_drewN|apply below_drew1|refine below_set ?_ GE1.out|refine below_set ?_ GE5.out)|exact HB.out)⟩⟩
      case rest =>
       clear HC35;try clear c1
       try clear p1
       try clear q1
       try clear hx1
       try clear c2
       try clear p2
       try clear c3
       try clear c6
       try clear p6
       try clear c7
       try clear c9
       try clear c9b0
       try clear p9
       try clear q9
       try clear hx9
       try clear qi9
       try clear c10
       try clear c10b0
       try clear c10b1
       try clear c12
       try clear c12b0
       try clear c13
       try clear c13b0
       try clear p13
       try clear q13
       try clear hx13
       try clear c14
       try clear c14b0
       try clear c14b1
       try clear c21
       try clear c32
       try clear c34
       try clear c34b0
       try clear c34b1
       try clear c36
       try clear c36b0
       try clear c37
       try clear c38
       try clear c39
       try clear hcz22_0
       try clear hcz22_1
       try clear hcz22_2
       try clear hcz22_3
       try clear hcz22_4
       try clear hcz33_0
       try clear hcz33_1
       try clear hcz33_2
       try clear hcz33_3
       try clear hcz33_4
       try clear hcz38_0
       try clear hcz38_1
       try clear hcz38_2
       try clear hcz38_3
       try clear hcz38_4
       try clear hcz40_0
       try clear hcz40_1
       try clear hcz40_2
       try clear hcz40_3
       try clear hcz40_4
       try clear hcz7_0
       try clear hcz7_1
       try clear hcz7_2
       try clear hcz7_3
       try clear hcz7_4
       try clear hfz22_0
       try clear hfz22_1
       try clear hfz22_2
       try clear hfz22_3
       try clear hfz22_4
       try clear hfz33_0
       try clear hfz33_1
       try clear hfz33_2
       try clear hfz33_3
       try clear hfz33_4
       try clear hfz38_0
       try clear hfz38_1
       try clear hfz38_2
       try clear hfz38_3
       try clear hfz38_4
       try clear hfz40_0
       try clear hfz40_1
       try clear hfz40_2
       try clear hfz40_3
       try clear hfz40_4
       try clear hfz7_0
       try clear hfz7_1
       try clear hfz7_2
       try clear hfz7_3
       try clear hfz7_4
       try clear hx13_0
       try clear hx9_0
       try clear p1
       try clear p13
       try clear p2
       try clear p6
       try clear p9
       try clear q1
       try clear q13
       try clear q9
       obtain ⟨kq,x44_34,rfl,HA,HJ34,HO_4,BK1,BK5,HB⟩:=hcut
       cases kq with
       | zero=>exact absurd HA.out (by simp [narcissusref02_read.j2])
       | succ kj34 =>
        have H:=HA.out
        clear HA;simp only [narcissusref02_read.j2] at H
        by_cases c42:x44_34=true
        ·subst c42
         have H1:(some (x6000_1,0,0,0,(⟨#[]⟩:ByteArray),false))=some (r1,r2,r3,r4,r5,r6):=by rw [if_pos rfl] at H;exact H
         clear H;have H:=H1
         clear H1;simp only [Option.some.injEq,Prod.mk.injEq] at H
         obtain ⟨rfl,rfl,rfl,rfl,rfl,rfl⟩:=H
         have hnb43:=NB5_1.out
         have hnc43:=NB1_5.out
         have hcz44_0:wc.cell? ⟨gb5,0,none⟩=some (.int .i64 x6000_1):=(blk_cell BK5.out 0).trans rfl
         have hcz44_1:wc.cell? ⟨gb5,1,none⟩=some (.int .i64 0):=(blk_cell BK5.out 1).trans rfl
         have hcz44_2:wc.cell? ⟨gb5,2,none⟩=some (.int .i64 0):=(blk_cell BK5.out 2).trans rfl
         have hcz44_3:wc.cell? ⟨gb5,3,none⟩=some (.int .i64 0):=(blk_cell BK5.out 3).trans rfl
         have hcz44_4:wc.cell? ⟨gb5,4,none⟩=some (.string (⟨#[]⟩:ByteArray)):=(blk_cell BK5.out 4).trans rfl
         have hfz44_0:=blk_frozen BK5.out 0
         have hfz44_1:=blk_frozen BK5.out 1
         have hfz44_2:=blk_frozen BK5.out 2
         have hfz44_3:=blk_frozen BK5.out 3
         have hfz44_4:=blk_frozen BK5.out 4
         have hcz45_0:wc.cell? ⟨gb1,0,none⟩=some (.int .i64 0):=(blk_cell BK1.out 0).trans rfl
         have hcz45_1:wc.cell? ⟨gb1,1,none⟩=some (.int .i64 0):=(blk_cell BK1.out 1).trans rfl
         have hcz45_2:wc.cell? ⟨gb1,2,none⟩=some (.int .i64 0):=(blk_cell BK1.out 2).trans rfl
         have hcz45_3:wc.cell? ⟨gb1,3,none⟩=some (.int .i64 0):=(blk_cell BK1.out 3).trans rfl
         have hcz45_4:wc.cell? ⟨gb1,4,none⟩=some (.string (⟨#[]⟩:ByteArray)):=(blk_cell BK1.out 4).trans rfl
         have hfz45_0:=blk_frozen BK1.out 0
         have hfz45_1:=blk_frozen BK1.out 1
         have hfz45_2:=blk_frozen BK1.out 2
         have hfz45_3:=blk_frozen BK1.out 3
         have hfz45_4:=blk_frozen BK1.out 4
         go_wp2
         refine bodyPost_ret (results_ct rfl _ _ gb1 42 #[.int .i64 x6000_1,.int .i64 0,.int .i64 0,.int .i64 0,.string (⟨#[]⟩:ByteArray)] (0,0) _ rfl (by (with_reducible repeat (first|refine blk_drewN ?_ _|refine blk_drew ?_|refine blk_alloc ?_ _));refine blk_put (cs:=#[.int .i64 x6000_1,.int .i64 0,.int .i64 0,.int .i64 0,.string (⟨#[]⟩:ByteArray)]) ?_ 4 _ rfl;(with_reducible repeat (first|refine blk_drewN ?_ _|refine blk_drew ?_|refine blk_alloc ?_ _));refine blk_put (cs:=#[.int .i64 x6000_1,.int .i64 0,.int .i64 0,.int .i64 0,.string (⟨#[]⟩:ByteArray)]) ?_ 3 _ rfl;(with_reducible repeat (first|refine blk_drewN ?_ _|refine blk_drew ?_|refine blk_alloc ?_ _));refine blk_put (cs:=#[.int .i64 x6000_1,.int .i64 0,.int .i64 0,.int .i64 0,.string (⟨#[]⟩:ByteArray)]) ?_ 2 _ rfl;(with_reducible repeat (first|refine blk_drewN ?_ _|refine blk_drew ?_|refine blk_alloc ?_ _));refine blk_put (cs:=#[.int .i64 x6000_1,.int .i64 0,.int .i64 0,.int .i64 0,.string (⟨#[]⟩:ByteArray)]) ?_ 1 _ rfl;(with_reducible repeat (first|refine blk_drewN ?_ _|refine blk_drew ?_|refine blk_alloc ?_ _));refine blk_put (cs:=#[.int .i64 0,.int .i64 0,.int .i64 0,.int .i64 0,.string (⟨#[]⟩:ByteArray)]) ?_ 0 _ rfl;(with_reducible repeat (first|refine blk_drewN ?_ _|refine blk_drew ?_|refine blk_alloc ?_ _));exact BK1.out) Tryz.underlying42 rfl (by kernel_rfl)) rfl ?_
         exact ⟨by first|rfl|(simp [errW_none,errW_some]<;>rfl)|(simp [*,errW_none,errW_some]<;>rfl),by repeat (first|(with_reducible first|exact HB.out|apply below_alloc|apply pw_below_drewN|apply below_drew1|refine below_set ?_ GE1.out|refine below_set ?_ GE5.out)|exact HB.out)⟩
        ·replace c42:=Bool.eq_false_iff.mpr c42
         subst c42;have H1:(if 1<(t2.length:Int) then ((narcissusref02_integer.f kj34 (rdOf ByteArray.empty t2 1)).bind fun bt15=>(if x6000_1=0 then (if 2<(t2.length:Int) then (some (x6000_1,bt15.1,0,0,rdOf ByteArray.empty t2 2,bt15.2)) else (none)) else (if 2<(t2.length:Int) then ((narcissusref02_integer.f kj34 (rdOf ByteArray.empty t2 2)).bind fun bt19=>(if x6000_1=2 then (if 3<(t2.length:Int) then ((narcissusref02_integer.f kj34 (rdOf ByteArray.empty t2 3)).bind fun bt22=>(if bt15.2=true then (if bt19.2=true then (some (x6000_1,bt15.1,bt19.1,bt22.1,(⟨#[]⟩:ByteArray),bt22.2)) else (some (x6000_1,bt15.1,bt19.1,bt22.1,(⟨#[]⟩:ByteArray),false))) else (some (x6000_1,bt15.1,bt19.1,bt22.1,(⟨#[]⟩:ByteArray),false)))) else (none)) else (if bt15.2=true then (some (x6000_1,bt15.1,bt19.1,0,(⟨#[]⟩:ByteArray),bt19.2)) else (some (x6000_1,bt15.1,bt19.1,0,(⟨#[]⟩:ByteArray),false))))) else (none)))) else (none))=some (r1,r2,r3,r4,r5,r6):=by rw [if_neg (show ¬ (false=true) by decide)] at H;exact H
         clear H;have H:=H1
         clear H1;by_cases c46:1<(t2.length:Int)
         ·rw [if_pos c46] at H
          have c46b0:decide (1<(t2.length:Int))=true:=decide_eq_true c46
          have c46b1:decide (1<t2.length)=true:=decide_eq_true (by omega)
          clear c46;replace H:=Option.bind_eq_some_iff.mp H
          obtain ⟨⟨t15,t16⟩,A470,H⟩:=H
          replace H:(if x6000_1=0 then (if 2<(t2.length:Int) then (some (x6000_1,t15,0,0,rdOf ByteArray.empty t2 2,t16)) else (none)) else (if 2<(t2.length:Int) then ((narcissusref02_integer.f kj34 (rdOf ByteArray.empty t2 2)).bind fun bt19=>(if x6000_1=2 then (if 3<(t2.length:Int) then ((narcissusref02_integer.f kj34 (rdOf ByteArray.empty t2 3)).bind fun bt22=>(if t16=true then (if bt19.2=true then (some (x6000_1,t15,bt19.1,bt22.1,(⟨#[]⟩:ByteArray),bt22.2)) else (some (x6000_1,t15,bt19.1,bt22.1,(⟨#[]⟩:ByteArray),false))) else (some (x6000_1,t15,bt19.1,bt22.1,(⟨#[]⟩:ByteArray),false)))) else (none)) else (if t16=true then (some (x6000_1,t15,bt19.1,0,(⟨#[]⟩:ByteArray),bt19.2)) else (some (x6000_1,t15,bt19.1,0,(⟨#[]⟩:ByteArray),false))))) else (none)))=some (r1,r2,r3,r4,r5,r6):=H
          have A47:=Aside0.mk A470
          clear A470;by_cases c48:x6000_1=0
          ·rw [if_pos c48] at H
           have c48b0:(x6000_1 == 0)=true:=beq_iff_eq.mpr c48
           have c48b1:(x6000_1 != 0)=false:=bne_eq_false_iff_eq.mpr c48
           clear c48;by_cases c49:2<(t2.length:Int)
           ·rw [if_pos c49] at H
            have c49b0:decide (2<(t2.length:Int))=true:=decide_eq_true c49
            have c49b1:decide (2<t2.length)=true:=decide_eq_true (by omega)
            clear c49;simp only [Option.some.injEq,Prod.mk.injEq] at H
            obtain ⟨rfl,rfl,rfl,rfl,rfl,rfl⟩:=H
            obtain ⟨Ao50,co50,eo50⟩:=Kd.R_slice HO_4.out
            subst eo50;have p14:0≤(1:Int):=(by omega)
            have q14:1<(t2.length:Int):=of_decide_eq_true (by first|(with_reducible assumption)|assumption)
            obtain ⟨ad14,e14,hx14_0⟩:=Kd.at_string (Kd.R_reads' HO_4.out).2.2 1 p14 q14
            cases e14
            (try simp only [show (1:Int).toNat=1 from rfl,Nat.reduceMul,Nat.reduceEqDiff,Go.Addr.add,↓reduceIte] at hx14_0)
            have qi14:(1<t2.length)=True:=eq_true (by omega)
            (try rw [show ((1:Int)).toNat=1 from rfl] at hx14_0)
            replace p14:=eq_true p14;replace q14:=eq_true q14;go_wp2_with (first|((with_reducible refine gate_callee (f:=71) rfl ?_);refine goesL_ (some 50) rfl rfl Tryz.func71 (by kernel_rfl) rfl #[.string (rdOf ByteArray.empty t2 1)] rfl (by (try simp only [List.map_toArray,List.map_cons,List.map_nil]);first|done|rfl) ?_;(with_reducible refine (narcissusref02_integer.calls kj34 (rdOf ByteArray.empty t2 1) t15 t16 _ A47.out).mono ?_);rintro e w' ⟨rfl,⟨nd,rfl⟩⟩;refine ⟨_,rfl,?_⟩;(try (rw [drewN_self wc];generalize hq_:World.drewN wc _=wc;have n0_:Aside0 (Kd.R Kd.string 9 wc w.heap.size (fun _=>True) (.slice (some ad14) t2.length co50) t2):=⟨by rw [← hq_];exact (by (with_reducible repeat (first|apply Kd.R_alloc|apply Kd.R_drewN|apply Kd.R_drew));exact HO_4.out)⟩;have n1_:Aside0 (wc.heap[gb1]? = some (.cells #[.int .i64 0,.int .i64 0,.int .i64 0,.int .i64 0,.string (⟨#[]⟩:ByteArray)] 42 (0,0))):=⟨by rw [← hq_];exact (by (with_reducible repeat (first|refine blk_drewN ?_ _|refine blk_drew ?_|refine blk_alloc ?_ _));exact BK1.out)⟩;have n2_:Aside0 (wc.heap[gb5]? = some (.cells #[.int .i64 x6000_1,.int .i64 0,.int .i64 0,.int .i64 0,.string (⟨#[]⟩:ByteArray)] 42 (0,0))):=⟨by rw [← hq_];exact (by (with_reducible repeat (first|refine blk_drewN ?_ _|refine blk_drew ?_|refine blk_alloc ?_ _));exact BK5.out)⟩;have n3_:Aside0 (Below w.heap.size w wc):=⟨by rw [← hq_];exact (by repeat (first|(with_reducible first|exact HB.out|apply below_alloc|apply pw_below_drewN|apply below_drew1|refine below_set ?_ GE1.out|refine below_set ?_ GE5.out)|exact HB.out))⟩;clear HO_4 BK1 BK5 HB hq_;have HO_4:=n0_;have BK1:=n1_;have BK5:=n2_;have HB:=n3_;clear n0_ n1_ n2_ n3_));have hnb51:=NB5_1.out;have hnc51:=NB1_5.out;have hcz52_0:wc.cell? ⟨gb5,0,none⟩=some (.int .i64 x6000_1):=(blk_cell BK5.out 0).trans rfl;have hcz52_1:wc.cell? ⟨gb5,1,none⟩=some (.int .i64 0):=(blk_cell BK5.out 1).trans rfl;have hcz52_2:wc.cell? ⟨gb5,2,none⟩=some (.int .i64 0):=(blk_cell BK5.out 2).trans rfl;have hcz52_3:wc.cell? ⟨gb5,3,none⟩=some (.int .i64 0):=(blk_cell BK5.out 3).trans rfl;have hcz52_4:wc.cell? ⟨gb5,4,none⟩=some (.string (⟨#[]⟩:ByteArray)):=(blk_cell BK5.out 4).trans rfl;have hfz52_0:=blk_frozen BK5.out 0;have hfz52_1:=blk_frozen BK5.out 1;have hfz52_2:=blk_frozen BK5.out 2;have hfz52_3:=blk_frozen BK5.out 3;have hfz52_4:=blk_frozen BK5.out 4;have p17:0≤(2:Int):=(by omega);have q17:2<(t2.length:Int):=of_decide_eq_true (by first|(with_reducible assumption)|assumption);obtain ⟨ad17,e17,hx17_0⟩:=Kd.at_string (Kd.R_reads' HO_4.out).2.2 2 p17 q17;obtain rfl:ad14=ad17:=(by injection e17);(try simp only [show (2:Int).toNat=2 from rfl,Nat.reduceMul,Nat.reduceEqDiff,Go.Addr.add,↓reduceIte] at hx17_0);have qi17:(2<t2.length)=True:=eq_true (by omega);(try rw [show ((2:Int)).toNat=2 from rfl] at hx17_0);have hn17_0:ad14.block ≠ gb5:=Kd.own_blk (Kd.R_ne HO_4.out BK5.out (by decide));replace hx17_0:=(cell_far (p:=⟨gb5,1,none⟩) (by first|(rw [add_block];exact hn17_0)|(show (Addr.add _ _).block ≠ _;rw [add_block];exact hn17_0)|exact hn17_0) (.int .i64 t15)).trans hx17_0;clear hn17_0;replace p17:=eq_true p17;replace q17:=eq_true q17;have hcz53_0:wc.cell? ⟨gb1,0,none⟩=some (.int .i64 0):=(blk_cell BK1.out 0).trans rfl;have hcz53_1:wc.cell? ⟨gb1,1,none⟩=some (.int .i64 0):=(blk_cell BK1.out 1).trans rfl;have hcz53_2:wc.cell? ⟨gb1,2,none⟩=some (.int .i64 0):=(blk_cell BK1.out 2).trans rfl;have hcz53_3:wc.cell? ⟨gb1,3,none⟩=some (.int .i64 0):=(blk_cell BK1.out 3).trans rfl;have hcz53_4:wc.cell? ⟨gb1,4,none⟩=some (.string (⟨#[]⟩:ByteArray)):=(blk_cell BK1.out 4).trans rfl;have hfz53_0:=blk_frozen BK1.out 0;have hfz53_1:=blk_frozen BK1.out 1;have hfz53_2:=blk_frozen BK1.out 2;have hfz53_3:=blk_frozen BK1.out 3;have hfz53_4:=blk_frozen BK1.out 4))
            refine bodyPost_ret (results_ct rfl _ _ gb1 42 #[.int .i64 x6000_1,.int .i64 t15,.int .i64 0,.int .i64 0,.string (rdOf ByteArray.empty t2 2)] (0,0) _ rfl (by (with_reducible repeat (first|refine blk_drewN ?_ _|refine blk_drew ?_|refine blk_alloc ?_ _));refine blk_put (cs:=#[.int .i64 x6000_1,.int .i64 t15,.int .i64 0,.int .i64 0,.string (⟨#[]⟩:ByteArray)]) ?_ 4 _ rfl;(with_reducible repeat (first|refine blk_drewN ?_ _|refine blk_drew ?_|refine blk_alloc ?_ _));refine blk_put (cs:=#[.int .i64 x6000_1,.int .i64 t15,.int .i64 0,.int .i64 0,.string (⟨#[]⟩:ByteArray)]) ?_ 3 _ rfl;(with_reducible repeat (first|refine blk_drewN ?_ _|refine blk_drew ?_|refine blk_alloc ?_ _));refine blk_put (cs:=#[.int .i64 x6000_1,.int .i64 t15,.int .i64 0,.int .i64 0,.string (⟨#[]⟩:ByteArray)]) ?_ 2 _ rfl;(with_reducible repeat (first|refine blk_drewN ?_ _|refine blk_drew ?_|refine blk_alloc ?_ _));refine blk_put (cs:=#[.int .i64 x6000_1,.int .i64 0,.int .i64 0,.int .i64 0,.string (⟨#[]⟩:ByteArray)]) ?_ 1 _ rfl;(with_reducible repeat (first|refine blk_drewN ?_ _|refine blk_drew ?_|refine blk_alloc ?_ _));refine blk_put (cs:=#[.int .i64 0,.int .i64 0,.int .i64 0,.int .i64 0,.string (⟨#[]⟩:ByteArray)]) ?_ 0 _ rfl;(with_reducible repeat (first|refine blk_drewN ?_ _|refine blk_drew ?_|refine blk_alloc ?_ _));refine blk_far ?_ NB1_5.out _;(with_reducible repeat (first|refine blk_drewN ?_ _|refine blk_drew ?_|refine blk_alloc ?_ _));refine blk_far ?_ NB1_5.out _;(with_reducible repeat (first|refine blk_drewN ?_ _|refine blk_drew ?_|refine blk_alloc ?_ _));exact BK1.out) Tryz.underlying42 rfl (by kernel_rfl)) rfl ?_
            exact ⟨by first|rfl|(simp [errW_none,errW_some]<;>rfl)|(simp [*,errW_none,errW_some]<;>rfl),by repeat (first|(with_reducible first|exact HB.out|apply below_alloc|apply pw_below_drewN|apply below_drew1|refine below_set ?_ GE1.out|refine below_set ?_ GE5.out)|exact HB.out)⟩
           ·rw [if_neg c49] at H
            exact absurd H (by simp)
          ·rw [if_neg c48] at H
           have c48b0:(x6000_1 == 0)=false:=beq_eq_false_iff_ne.mpr c48
           have c48b1:(x6000_1 != 0)=true:=bne_iff_ne.mpr c48
           by_cases c54:2<(t2.length:Int)
           ·rw [if_pos c54] at H
            have c54b0:decide (2<(t2.length:Int))=true:=decide_eq_true c54
            have c54b1:decide (2<t2.length)=true:=decide_eq_true (by omega)
            clear c54;replace H:=Option.bind_eq_some_iff.mp H
            obtain ⟨⟨t19,t20⟩,A550,H⟩:=H
            replace H:(if x6000_1=2 then (if 3<(t2.length:Int) then ((narcissusref02_integer.f kj34 (rdOf ByteArray.empty t2 3)).bind fun bt22=>(if t16=true then (if t20=true then (some (x6000_1,t15,t19,bt22.1,(⟨#[]⟩:ByteArray),bt22.2)) else (some (x6000_1,t15,t19,bt22.1,(⟨#[]⟩:ByteArray),false))) else (some (x6000_1,t15,t19,bt22.1,(⟨#[]⟩:ByteArray),false)))) else (none)) else (if t16=true then (some (x6000_1,t15,t19,0,(⟨#[]⟩:ByteArray),t20)) else (some (x6000_1,t15,t19,0,(⟨#[]⟩:ByteArray),false))))=some (r1,r2,r3,r4,r5,r6):=H
            have A55:=Aside0.mk A550
            clear A550;by_cases c56:x6000_1=2
            ·rw [if_pos c56] at H
             have c56b0:(x6000_1 == 2)=true:=beq_iff_eq.mpr c56
             have c56b1:(x6000_1 != 2)=false:=bne_eq_false_iff_eq.mpr c56
             clear c56;by_cases c57:3<(t2.length:Int)
             ·rw [if_pos c57] at H
              have c57b0:decide (3<(t2.length:Int))=true:=decide_eq_true c57
              have c57b1:decide (3<t2.length)=true:=decide_eq_true (by omega)
              clear c57;replace H:=Option.bind_eq_some_iff.mp H
              obtain ⟨⟨t22,t23⟩,A580,H⟩:=H
              replace H:(if t16=true then (if t20=true then (some (x6000_1,t15,t19,t22,(⟨#[]⟩:ByteArray),t23)) else (some (x6000_1,t15,t19,t22,(⟨#[]⟩:ByteArray),false))) else (some (x6000_1,t15,t19,t22,(⟨#[]⟩:ByteArray),false)))=some (r1,r2,r3,r4,r5,r6):=H
              have A58:=Aside0.mk A580
              clear A580;by_cases c59:t16=true
              ·subst c59
               have H1:(if t20=true then (some (x6000_1,t15,t19,t22,(⟨#[]⟩:ByteArray),t23)) else (some (x6000_1,t15,t19,t22,(⟨#[]⟩:ByteArray),false)))=some (r1,r2,r3,r4,r5,r6):=by rw [if_pos rfl] at H;exact H
               clear H;have H:=H1
               clear H1;by_cases c60:t20=true
               ·subst c60
                have H1:(some (x6000_1,t15,t19,t22,(⟨#[]⟩:ByteArray),t23))=some (r1,r2,r3,r4,r5,r6):=by rw [if_pos rfl] at H;exact H
                clear H;have H:=H1
                clear H1;simp only [Option.some.injEq,Prod.mk.injEq] at H
                obtain ⟨rfl,rfl,rfl,rfl,rfl,rfl⟩:=H
                obtain ⟨Ao61,co61,eo61⟩:=Kd.R_slice HO_4.out
                subst eo61;have p14:0≤(1:Int):=(by omega)
                have q14:1<(t2.length:Int):=of_decide_eq_true (by first|(with_reducible assumption)|assumption)
                obtain ⟨ad14,e14,hx14_0⟩:=Kd.at_string (Kd.R_reads' HO_4.out).2.2 1 p14 q14
                cases e14
                (try simp only [show (1:Int).toNat=1 from rfl,Nat.reduceMul,Nat.reduceEqDiff,Go.Addr.add,↓reduceIte] at hx14_0)
                have qi14:(1<t2.length)=True:=eq_true (by omega)
                (try rw [show ((1:Int)).toNat=1 from rfl] at hx14_0)
                replace p14:=eq_true p14;replace q14:=eq_true q14;go_wp2_with (first|((with_reducible refine gate_callee (f:=71) rfl ?_);refine goesL_ (some 50) rfl rfl Tryz.func71 (by kernel_rfl) rfl #[.string (rdOf ByteArray.empty t2 1)] rfl (by (try simp only [List.map_toArray,List.map_cons,List.map_nil]);first|done|rfl) ?_;(with_reducible refine (narcissusref02_integer.calls kj34 (rdOf ByteArray.empty t2 1) t15 true _ A47.out).mono ?_);rintro e w' ⟨rfl,⟨nd,rfl⟩⟩;refine ⟨_,rfl,?_⟩;(try (rw [drewN_self wc];generalize hq_:World.drewN wc _=wc;have n0_:Aside0 (Kd.R Kd.string 9 wc w.heap.size (fun _=>True) (.slice (some ad14) t2.length co61) t2):=⟨by rw [← hq_];exact (by (with_reducible repeat (first|apply Kd.R_alloc|apply Kd.R_drewN|apply Kd.R_drew));exact HO_4.out)⟩;have n1_:Aside0 (wc.heap[gb1]? = some (.cells #[.int .i64 0,.int .i64 0,.int .i64 0,.int .i64 0,.string (⟨#[]⟩:ByteArray)] 42 (0,0))):=⟨by rw [← hq_];exact (by (with_reducible repeat (first|refine blk_drewN ?_ _|refine blk_drew ?_|refine blk_alloc ?_ _));exact BK1.out)⟩;have n2_:Aside0 (wc.heap[gb5]? = some (.cells #[.int .i64 x6000_1,.int .i64 0,.int .i64 0,.int .i64 0,.string (⟨#[]⟩:ByteArray)] 42 (0,0))):=⟨by rw [← hq_];exact (by (with_reducible repeat (first|refine blk_drewN ?_ _|refine blk_drew ?_|refine blk_alloc ?_ _));exact BK5.out)⟩;have n3_:Aside0 (Below w.heap.size w wc):=⟨by rw [← hq_];exact (by repeat (first|(with_reducible first|exact HB.out|apply below_alloc|apply pw_below_drewN|apply below_drew1|refine below_set ?_ GE1.out|refine below_set ?_ GE5.out)|exact HB.out))⟩;clear HO_4 BK1 BK5 HB hq_;have HO_4:=n0_;have BK1:=n1_;have BK5:=n2_;have HB:=n3_;clear n0_ n1_ n2_ n3_));have hnb62:=NB5_1.out;have hnc62:=NB1_5.out;have hcz63_0:wc.cell? ⟨gb5,0,none⟩=some (.int .i64 x6000_1):=(blk_cell BK5.out 0).trans rfl;have hcz63_1:wc.cell? ⟨gb5,1,none⟩=some (.int .i64 0):=(blk_cell BK5.out 1).trans rfl;have hcz63_2:wc.cell? ⟨gb5,2,none⟩=some (.int .i64 0):=(blk_cell BK5.out 2).trans rfl;have hcz63_3:wc.cell? ⟨gb5,3,none⟩=some (.int .i64 0):=(blk_cell BK5.out 3).trans rfl;have hcz63_4:wc.cell? ⟨gb5,4,none⟩=some (.string (⟨#[]⟩:ByteArray)):=(blk_cell BK5.out 4).trans rfl;have hfz63_0:=blk_frozen BK5.out 0;have hfz63_1:=blk_frozen BK5.out 1;have hfz63_2:=blk_frozen BK5.out 2;have hfz63_3:=blk_frozen BK5.out 3;have hfz63_4:=blk_frozen BK5.out 4;have p18:0≤(2:Int):=(by omega);have q18:2<(t2.length:Int):=of_decide_eq_true (by first|(with_reducible assumption)|assumption);obtain ⟨ad18,e18,hx18_0⟩:=Kd.at_string (Kd.R_reads' HO_4.out).2.2 2 p18 q18;obtain rfl:ad14=ad18:=(by injection e18);(try simp only [show (2:Int).toNat=2 from rfl,Nat.reduceMul,Nat.reduceEqDiff,Go.Addr.add,↓reduceIte] at hx18_0);have qi18:(2<t2.length)=True:=eq_true (by omega);(try rw [show ((2:Int)).toNat=2 from rfl] at hx18_0);have hn18_0:ad14.block ≠ gb5:=Kd.own_blk (Kd.R_ne HO_4.out BK5.out (by decide));replace hx18_0:=(cell_far (p:=⟨gb5,1,none⟩) (by first|(rw [add_block];exact hn18_0)|(show (Addr.add _ _).block ≠ _;rw [add_block];exact hn18_0)|exact hn18_0) (.int .i64 t15)).trans hx18_0;clear hn18_0;replace p18:=eq_true p18;replace q18:=eq_true q18)|((with_reducible refine gate_callee (f:=71) rfl ?_);refine goesL_ (some 68) rfl rfl Tryz.func71 (by kernel_rfl) rfl #[.string (rdOf ByteArray.empty t2 2)] rfl (by (try simp only [List.map_toArray,List.map_cons,List.map_nil]);first|done|rfl) ?_;(with_reducible refine (narcissusref02_integer.calls kj34 (rdOf ByteArray.empty t2 2) t19 true _ A55.out).mono ?_);rintro e w' ⟨rfl,⟨nd,rfl⟩⟩;refine ⟨_,rfl,?_⟩;have p21:0≤(3:Int):=(by omega);have q21:3<(t2.length:Int):=of_decide_eq_true (by first|(with_reducible assumption)|assumption);obtain ⟨ad21,e21,hx21_0⟩:=Kd.at_string (Kd.R_reads' HO_4.out).2.2 3 p21 q21;obtain rfl:ad14=ad21:=(by injection e21);(try simp only [show (3:Int).toNat=3 from rfl,Nat.reduceMul,Nat.reduceEqDiff,Go.Addr.add,↓reduceIte] at hx21_0);have qi21:(3<t2.length)=True:=eq_true (by omega);(try rw [show ((3:Int)).toNat=3 from rfl] at hx21_0);have hn21_0:ad14.block ≠ gb5:=Kd.own_blk (Kd.R_ne HO_4.out BK5.out (by decide));have hn21_1:ad14.block ≠ gb5:=Kd.own_blk (Kd.R_ne HO_4.out BK5.out (by decide));have hb21_0:=hx21_0;replace hx21_0:=(cell_far (p:=⟨gb5,1,none⟩) (by first|(rw [add_block];exact hn21_0)|(show (Addr.add _ _).block ≠ _;rw [add_block];exact hn21_0)|exact hn21_0) (.int .i64 t15)).trans hx21_0;replace hx21_0:=(cell_far (W:=(wc.setCell ⟨gb5,1,none⟩ (.int .i64 t15)).drewN nd) (p:=⟨gb5,2,none⟩) (by first|(rw [add_block];exact hn21_1)|(show (Addr.add _ _).block ≠ _;rw [add_block];exact hn21_1)|exact hn21_1) (.int .i64 t19)).trans hx21_0;clear hn21_0;clear hn21_1;replace p21:=eq_true p21;replace q21:=eq_true q21)|((with_reducible refine gate_callee (f:=71) rfl ?_);refine goesL_ (some 80) rfl rfl Tryz.func71 (by kernel_rfl) rfl #[.string (rdOf ByteArray.empty t2 3)] rfl (by (try simp only [List.map_toArray,List.map_cons,List.map_nil]);first|done|rfl) ?_;(with_reducible refine (narcissusref02_integer.calls kj34 (rdOf ByteArray.empty t2 3) t22 t23 _ A58.out).mono ?_);rintro e w' ⟨rfl,⟨nd,rfl⟩⟩;refine ⟨_,rfl,?_⟩;have hcz64_0:wc.cell? ⟨gb1,0,none⟩=some (.int .i64 0):=(blk_cell BK1.out 0).trans rfl;have hcz64_1:wc.cell? ⟨gb1,1,none⟩=some (.int .i64 0):=(blk_cell BK1.out 1).trans rfl;have hcz64_2:wc.cell? ⟨gb1,2,none⟩=some (.int .i64 0):=(blk_cell BK1.out 2).trans rfl;have hcz64_3:wc.cell? ⟨gb1,3,none⟩=some (.int .i64 0):=(blk_cell BK1.out 3).trans rfl;have hcz64_4:wc.cell? ⟨gb1,4,none⟩=some (.string (⟨#[]⟩:ByteArray)):=(blk_cell BK1.out 4).trans rfl;have hfz64_0:=blk_frozen BK1.out 0;have hfz64_1:=blk_frozen BK1.out 1;have hfz64_2:=blk_frozen BK1.out 2;have hfz64_3:=blk_frozen BK1.out 3;have hfz64_4:=blk_frozen BK1.out 4))
                refine bodyPost_ret (results_ct rfl _ _ gb1 42 #[.int .i64 x6000_1,.int .i64 t15,.int .i64 t19,.int .i64 t22,.string (⟨#[]⟩:ByteArray)] (0,0) _ rfl (by (with_reducible repeat (first|refine blk_drewN ?_ _|refine blk_drew ?_|refine blk_alloc ?_ _));refine blk_put (cs:=#[.int .i64 x6000_1,.int .i64 t15,.int .i64 t19,.int .i64 t22,.string (⟨#[]⟩:ByteArray)]) ?_ 4 _ rfl;(with_reducible repeat (first|refine blk_drewN ?_ _|refine blk_drew ?_|refine blk_alloc ?_ _));refine blk_put (cs:=#[.int .i64 x6000_1,.int .i64 t15,.int .i64 t19,.int .i64 0,.string (⟨#[]⟩:ByteArray)]) ?_ 3 _ rfl;(with_reducible repeat (first|refine blk_drewN ?_ _|refine blk_drew ?_|refine blk_alloc ?_ _));refine blk_put (cs:=#[.int .i64 x6000_1,.int .i64 t15,.int .i64 0,.int .i64 0,.string (⟨#[]⟩:ByteArray)]) ?_ 2 _ rfl;(with_reducible repeat (first|refine blk_drewN ?_ _|refine blk_drew ?_|refine blk_alloc ?_ _));refine blk_put (cs:=#[.int .i64 x6000_1,.int .i64 0,.int .i64 0,.int .i64 0,.string (⟨#[]⟩:ByteArray)]) ?_ 1 _ rfl;(with_reducible repeat (first|refine blk_drewN ?_ _|refine blk_drew ?_|refine blk_alloc ?_ _));refine blk_put (cs:=#[.int .i64 0,.int .i64 0,.int .i64 0,.int .i64 0,.string (⟨#[]⟩:ByteArray)]) ?_ 0 _ rfl;(with_reducible repeat (first|refine blk_drewN ?_ _|refine blk_drew ?_|refine blk_alloc ?_ _));refine blk_far ?_ NB1_5.out _;(with_reducible repeat (first|refine blk_drewN ?_ _|refine blk_drew ?_|refine blk_alloc ?_ _));refine blk_far ?_ NB1_5.out _;(with_reducible repeat (first|refine blk_drewN ?_ _|refine blk_drew ?_|refine blk_alloc ?_ _));refine blk_far ?_ NB1_5.out _;(with_reducible repeat (first|refine blk_drewN ?_ _|refine blk_drew ?_|refine blk_alloc ?_ _));exact BK1.out) Tryz.underlying42 rfl (by kernel_rfl)) rfl ?_
                exact ⟨by first|rfl|(simp [errW_none,errW_some]<;>rfl)|(simp [*,errW_none,errW_some]<;>rfl),by repeat (first|(with_reducible first|exact HB.out|apply below_alloc|apply pw_below_drewN|apply below_drew1|refine below_set ?_ GE1.out|refine below_set ?_ GE5.out)|exact HB.out)⟩
               ·replace c60:=Bool.eq_false_iff.mpr c60
                subst c60;have H1:(some (x6000_1,t15,t19,t22,(⟨#[]⟩:ByteArray),false))=some (r1,r2,r3,r4,r5,r6):=by rw [if_neg (show ¬ (false=true) by decide)] at H;exact H
                clear H;have H:=H1
                clear H1;simp only [Option.some.injEq,Prod.mk.injEq] at H
                obtain ⟨rfl,rfl,rfl,rfl,rfl,rfl⟩:=H
                obtain ⟨Ao65,co65,eo65⟩:=Kd.R_slice HO_4.out
                subst eo65;have p14:0≤(1:Int):=(by omega)
                have q14:1<(t2.length:Int):=of_decide_eq_true (by first|(with_reducible assumption)|assumption)
                obtain ⟨ad14,e14,hx14_0⟩:=Kd.at_string (Kd.R_reads' HO_4.out).2.2 1 p14 q14
                cases e14
                (try simp only [show (1:Int).toNat=1 from rfl,Nat.reduceMul,Nat.reduceEqDiff,Go.Addr.add,↓reduceIte] at hx14_0)
                have qi14:(1<t2.length)=True:=eq_true (by omega)
                (try rw [show ((1:Int)).toNat=1 from rfl] at hx14_0)
                replace p14:=eq_true p14;replace q14:=eq_true q14;go_wp2_with (first|((with_reducible refine gate_callee (f:=71) rfl ?_);refine goesL_ (some 50) rfl rfl Tryz.func71 (by kernel_rfl) rfl #[.string (rdOf ByteArray.empty t2 1)] rfl (by (try simp only [List.map_toArray,List.map_cons,List.map_nil]);first|done|rfl) ?_;(with_reducible refine (narcissusref02_integer.calls kj34 (rdOf ByteArray.empty t2 1) t15 true _ A47.out).mono ?_);rintro e w' ⟨rfl,⟨nd,rfl⟩⟩;refine ⟨_,rfl,?_⟩;(try (rw [drewN_self wc];generalize hq_:World.drewN wc _=wc;have n0_:Aside0 (Kd.R Kd.string 9 wc w.heap.size (fun _=>True) (.slice (some ad14) t2.length co65) t2):=⟨by rw [← hq_];exact (by (with_reducible repeat (first|apply Kd.R_alloc|apply Kd.R_drewN|apply Kd.R_drew));exact HO_4.out)⟩;have n1_:Aside0 (wc.heap[gb1]? = some (.cells #[.int .i64 0,.int .i64 0,.int .i64 0,.int .i64 0,.string (⟨#[]⟩:ByteArray)] 42 (0,0))):=⟨by rw [← hq_];exact (by (with_reducible repeat (first|refine blk_drewN ?_ _|refine blk_drew ?_|refine blk_alloc ?_ _));exact BK1.out)⟩;have n2_:Aside0 (wc.heap[gb5]? = some (.cells #[.int .i64 x6000_1,.int .i64 0,.int .i64 0,.int .i64 0,.string (⟨#[]⟩:ByteArray)] 42 (0,0))):=⟨by rw [← hq_];exact (by (with_reducible repeat (first|refine blk_drewN ?_ _|refine blk_drew ?_|refine blk_alloc ?_ _));exact BK5.out)⟩;have n3_:Aside0 (Below w.heap.size w wc):=⟨by rw [← hq_];exact (by repeat (first|(with_reducible first|exact HB.out|apply below_alloc|apply pw_below_drewN|apply below_drew1|refine below_set ?_ GE1.out|refine below_set ?_ GE5.out)|exact HB.out))⟩;clear HO_4 BK1 BK5 HB hq_;have HO_4:=n0_;have BK1:=n1_;have BK5:=n2_;have HB:=n3_;clear n0_ n1_ n2_ n3_));have hnb66:=NB5_1.out;have hnc66:=NB1_5.out;have hcz67_0:wc.cell? ⟨gb5,0,none⟩=some (.int .i64 x6000_1):=(blk_cell BK5.out 0).trans rfl;have hcz67_1:wc.cell? ⟨gb5,1,none⟩=some (.int .i64 0):=(blk_cell BK5.out 1).trans rfl;have hcz67_2:wc.cell? ⟨gb5,2,none⟩=some (.int .i64 0):=(blk_cell BK5.out 2).trans rfl;have hcz67_3:wc.cell? ⟨gb5,3,none⟩=some (.int .i64 0):=(blk_cell BK5.out 3).trans rfl;have hcz67_4:wc.cell? ⟨gb5,4,none⟩=some (.string (⟨#[]⟩:ByteArray)):=(blk_cell BK5.out 4).trans rfl;have hfz67_0:=blk_frozen BK5.out 0;have hfz67_1:=blk_frozen BK5.out 1;have hfz67_2:=blk_frozen BK5.out 2;have hfz67_3:=blk_frozen BK5.out 3;have hfz67_4:=blk_frozen BK5.out 4;have p18:0≤(2:Int):=(by omega);have q18:2<(t2.length:Int):=of_decide_eq_true (by first|(with_reducible assumption)|assumption);obtain ⟨ad18,e18,hx18_0⟩:=Kd.at_string (Kd.R_reads' HO_4.out).2.2 2 p18 q18;obtain rfl:ad14=ad18:=(by injection e18);(try simp only [show (2:Int).toNat=2 from rfl,Nat.reduceMul,Nat.reduceEqDiff,Go.Addr.add,↓reduceIte] at hx18_0);have qi18:(2<t2.length)=True:=eq_true (by omega);(try rw [show ((2:Int)).toNat=2 from rfl] at hx18_0);have hn18_0:ad14.block ≠ gb5:=Kd.own_blk (Kd.R_ne HO_4.out BK5.out (by decide));replace hx18_0:=(cell_far (p:=⟨gb5,1,none⟩) (by first|(rw [add_block];exact hn18_0)|(show (Addr.add _ _).block ≠ _;rw [add_block];exact hn18_0)|exact hn18_0) (.int .i64 t15)).trans hx18_0;clear hn18_0;replace p18:=eq_true p18;replace q18:=eq_true q18)|((with_reducible refine gate_callee (f:=71) rfl ?_);refine goesL_ (some 68) rfl rfl Tryz.func71 (by kernel_rfl) rfl #[.string (rdOf ByteArray.empty t2 2)] rfl (by (try simp only [List.map_toArray,List.map_cons,List.map_nil]);first|done|rfl) ?_;(with_reducible refine (narcissusref02_integer.calls kj34 (rdOf ByteArray.empty t2 2) t19 false _ A55.out).mono ?_);rintro e w' ⟨rfl,⟨nd,rfl⟩⟩;refine ⟨_,rfl,?_⟩;have p21:0≤(3:Int):=(by omega);have q21:3<(t2.length:Int):=of_decide_eq_true (by first|(with_reducible assumption)|assumption);obtain ⟨ad21,e21,hx21_0⟩:=Kd.at_string (Kd.R_reads' HO_4.out).2.2 3 p21 q21;obtain rfl:ad14=ad21:=(by injection e21);(try simp only [show (3:Int).toNat=3 from rfl,Nat.reduceMul,Nat.reduceEqDiff,Go.Addr.add,↓reduceIte] at hx21_0);have qi21:(3<t2.length)=True:=eq_true (by omega);(try rw [show ((3:Int)).toNat=3 from rfl] at hx21_0);have hn21_0:ad14.block ≠ gb5:=Kd.own_blk (Kd.R_ne HO_4.out BK5.out (by decide));have hn21_1:ad14.block ≠ gb5:=Kd.own_blk (Kd.R_ne HO_4.out BK5.out (by decide));have hb21_0:=hx21_0;replace hx21_0:=(cell_far (p:=⟨gb5,1,none⟩) (by first|(rw [add_block];exact hn21_0)|(show (Addr.add _ _).block ≠ _;rw [add_block];exact hn21_0)|exact hn21_0) (.int .i64 t15)).trans hx21_0;replace hx21_0:=(cell_far (W:=(wc.setCell ⟨gb5,1,none⟩ (.int .i64 t15)).drewN nd) (p:=⟨gb5,2,none⟩) (by first|(rw [add_block];exact hn21_1)|(show (Addr.add _ _).block ≠ _;rw [add_block];exact hn21_1)|exact hn21_1) (.int .i64 t19)).trans hx21_0;clear hn21_0;clear hn21_1;replace p21:=eq_true p21;replace q21:=eq_true q21)|((with_reducible refine gate_callee (f:=71) rfl ?_);refine goesL_ (some 80) rfl rfl Tryz.func71 (by kernel_rfl) rfl #[.string (rdOf ByteArray.empty t2 3)] rfl (by (try simp only [List.map_toArray,List.map_cons,List.map_nil]);first|done|rfl) ?_;(with_reducible refine (narcissusref02_integer.calls kj34 (rdOf ByteArray.empty t2 3) t22 t23 _ A58.out).mono ?_);rintro e w' ⟨rfl,⟨nd,rfl⟩⟩;refine ⟨_,rfl,?_⟩;have hcz68_0:wc.cell? ⟨gb1,0,none⟩=some (.int .i64 0):=(blk_cell BK1.out 0).trans rfl;have hcz68_1:wc.cell? ⟨gb1,1,none⟩=some (.int .i64 0):=(blk_cell BK1.out 1).trans rfl;have hcz68_2:wc.cell? ⟨gb1,2,none⟩=some (.int .i64 0):=(blk_cell BK1.out 2).trans rfl;have hcz68_3:wc.cell? ⟨gb1,3,none⟩=some (.int .i64 0):=(blk_cell BK1.out 3).trans rfl;have hcz68_4:wc.cell? ⟨gb1,4,none⟩=some (.string (⟨#[]⟩:ByteArray)):=(blk_cell BK1.out 4).trans rfl;have hfz68_0:=blk_frozen BK1.out 0;have hfz68_1:=blk_frozen BK1.out 1;have hfz68_2:=blk_frozen BK1.out 2;have hfz68_3:=blk_frozen BK1.out 3;have hfz68_4:=blk_frozen BK1.out 4))
                refine bodyPost_ret (results_ct rfl _ _ gb1 42 #[.int .i64 x6000_1,.int .i64 t15,.int .i64 t19,.int .i64 t22,.string (⟨#[]⟩:ByteArray)] (0,0) _ rfl (by (with_reducible repeat (first|refine blk_drewN ?_ _|refine blk_drew ?_|refine blk_alloc ?_ _));refine blk_put (cs:=#[.int .i64 x6000_1,.int .i64 t15,.int .i64 t19,.int .i64 t22,.string (⟨#[]⟩:ByteArray)]) ?_ 4 _ rfl;(with_reducible repeat (first|refine blk_drewN ?_ _|refine blk_drew ?_|refine blk_alloc ?_ _));refine blk_put (cs:=#[.int .i64 x6000_1,.int .i64 t15,.int .i64 t19,.int .i64 0,.string (⟨#[]⟩:ByteArray)]) ?_ 3 _ rfl;(with_reducible repeat (first|refine blk_drewN ?_ _|refine blk_drew ?_|refine blk_alloc ?_ _));refine blk_put (cs:=#[.int .i64 x6000_1,.int .i64 t15,.int .i64 0,.int .i64 0,.string (⟨#[]⟩:ByteArray)]) ?_ 2 _ rfl;(with_reducible repeat (first|refine blk_drewN ?_ _|refine blk_drew ?_|refine blk_alloc ?_ _));refine blk_put (cs:=#[.int .i64 x6000_1,.int .i64 0,.int .i64 0,.int .i64 0,.string (⟨#[]⟩:ByteArray)]) ?_ 1 _ rfl;(with_reducible repeat (first|refine blk_drewN ?_ _|refine blk_drew ?_|refine blk_alloc ?_ _));refine blk_put (cs:=#[.int .i64 0,.int .i64 0,.int .i64 0,.int .i64 0,.string (⟨#[]⟩:ByteArray)]) ?_ 0 _ rfl;(with_reducible repeat (first|refine blk_drewN ?_ _|refine blk_drew ?_|refine blk_alloc ?_ _));refine blk_far ?_ NB1_5.out _;(with_reducible repeat (first|refine blk_drewN ?_ _|refine blk_drew ?_|refine blk_alloc ?_ _));refine blk_far ?_ NB1_5.out _;(with_reducible repeat (first|refine blk_drewN ?_ _|refine blk_drew ?_|refine blk_alloc ?_ _));refine blk_far ?_ NB1_5.out _;(with_reducible repeat (first|refine blk_drewN ?_ _|refine blk_drew ?_|refine blk_alloc ?_ _));exact BK1.out) Tryz.underlying42 rfl (by kernel_rfl)) rfl ?_
                exact ⟨by first|rfl|(simp [errW_none,errW_some]<;>rfl)|(simp [*,errW_none,errW_some]<;>rfl),by repeat (first|(with_reducible first|exact HB.out|apply below_alloc|apply pw_below_drewN|apply below_drew1|refine below_set ?_ GE1.out|refine below_set ?_ GE5.out)|exact HB.out)⟩
              ·replace c59:=Bool.eq_false_iff.mpr c59
               subst c59;have H1:(some (x6000_1,t15,t19,t22,(⟨#[]⟩:ByteArray),false))=some (r1,r2,r3,r4,r5,r6):=by rw [if_neg (show ¬ (false=true) by decide)] at H;exact H
               clear H;have H:=H1
               clear H1;simp only [Option.some.injEq,Prod.mk.injEq] at H
               obtain ⟨rfl,rfl,rfl,rfl,rfl,rfl⟩:=H
               obtain ⟨Ao69,co69,eo69⟩:=Kd.R_slice HO_4.out
               subst eo69;have p14:0≤(1:Int):=(by omega)
               have q14:1<(t2.length:Int):=of_decide_eq_true (by first|(with_reducible assumption)|assumption)
               obtain ⟨ad14,e14,hx14_0⟩:=Kd.at_string (Kd.R_reads' HO_4.out).2.2 1 p14 q14
               cases e14
               (try simp only [show (1:Int).toNat=1 from rfl,Nat.reduceMul,Nat.reduceEqDiff,Go.Addr.add,↓reduceIte] at hx14_0)
               have qi14:(1<t2.length)=True:=eq_true (by omega)
               (try rw [show ((1:Int)).toNat=1 from rfl] at hx14_0)
               replace p14:=eq_true p14;replace q14:=eq_true q14;go_wp2_with (first|((with_reducible refine gate_callee (f:=71) rfl ?_);refine goesL_ (some 50) rfl rfl Tryz.func71 (by kernel_rfl) rfl #[.string (rdOf ByteArray.empty t2 1)] rfl (by (try simp only [List.map_toArray,List.map_cons,List.map_nil]);first|done|rfl) ?_;(with_reducible refine (narcissusref02_integer.calls kj34 (rdOf ByteArray.empty t2 1) t15 false _ A47.out).mono ?_);rintro e w' ⟨rfl,⟨nd,rfl⟩⟩;refine ⟨_,rfl,?_⟩;(try (rw [drewN_self wc];generalize hq_:World.drewN wc _=wc;have n0_:Aside0 (Kd.R Kd.string 9 wc w.heap.size (fun _=>True) (.slice (some ad14) t2.length co69) t2):=⟨by rw [← hq_];exact (by (with_reducible repeat (first|apply Kd.R_alloc|apply Kd.R_drewN|apply Kd.R_drew));exact HO_4.out)⟩;have n1_:Aside0 (wc.heap[gb1]? = some (.cells #[.int .i64 0,.int .i64 0,.int .i64 0,.int .i64 0,.string (⟨#[]⟩:ByteArray)] 42 (0,0))):=⟨by rw [← hq_];exact (by (with_reducible repeat (first|refine blk_drewN ?_ _|refine blk_drew ?_|refine blk_alloc ?_ _));exact BK1.out)⟩;have n2_:Aside0 (wc.heap[gb5]? = some (.cells #[.int .i64 x6000_1,.int .i64 0,.int .i64 0,.int .i64 0,.string (⟨#[]⟩:ByteArray)] 42 (0,0))):=⟨by rw [← hq_];exact (by (with_reducible repeat (first|refine blk_drewN ?_ _|refine blk_drew ?_|refine blk_alloc ?_ _));exact BK5.out)⟩;have n3_:Aside0 (Below w.heap.size w wc):=⟨by rw [← hq_];exact (by repeat (first|(with_reducible first|exact HB.out|apply below_alloc|apply pw_below_drewN|apply below_drew1|refine below_set ?_ GE1.out|refine below_set ?_ GE5.out)|exact HB.out))⟩;clear HO_4 BK1 BK5 HB hq_;have HO_4:=n0_;have BK1:=n1_;have BK5:=n2_;have HB:=n3_;clear n0_ n1_ n2_ n3_));have hnb70:=NB5_1.out;have hnc70:=NB1_5.out;have hcz71_0:wc.cell? ⟨gb5,0,none⟩=some (.int .i64 x6000_1):=(blk_cell BK5.out 0).trans rfl;have hcz71_1:wc.cell? ⟨gb5,1,none⟩=some (.int .i64 0):=(blk_cell BK5.out 1).trans rfl;have hcz71_2:wc.cell? ⟨gb5,2,none⟩=some (.int .i64 0):=(blk_cell BK5.out 2).trans rfl;have hcz71_3:wc.cell? ⟨gb5,3,none⟩=some (.int .i64 0):=(blk_cell BK5.out 3).trans rfl;have hcz71_4:wc.cell? ⟨gb5,4,none⟩=some (.string (⟨#[]⟩:ByteArray)):=(blk_cell BK5.out 4).trans rfl;have hfz71_0:=blk_frozen BK5.out 0;have hfz71_1:=blk_frozen BK5.out 1;have hfz71_2:=blk_frozen BK5.out 2;have hfz71_3:=blk_frozen BK5.out 3;have hfz71_4:=blk_frozen BK5.out 4;have p18:0≤(2:Int):=(by omega);have q18:2<(t2.length:Int):=of_decide_eq_true (by first|(with_reducible assumption)|assumption);obtain ⟨ad18,e18,hx18_0⟩:=Kd.at_string (Kd.R_reads' HO_4.out).2.2 2 p18 q18;obtain rfl:ad14=ad18:=(by injection e18);(try simp only [show (2:Int).toNat=2 from rfl,Nat.reduceMul,Nat.reduceEqDiff,Go.Addr.add,↓reduceIte] at hx18_0);have qi18:(2<t2.length)=True:=eq_true (by omega);(try rw [show ((2:Int)).toNat=2 from rfl] at hx18_0);have hn18_0:ad14.block ≠ gb5:=Kd.own_blk (Kd.R_ne HO_4.out BK5.out (by decide));replace hx18_0:=(cell_far (p:=⟨gb5,1,none⟩) (by first|(rw [add_block];exact hn18_0)|(show (Addr.add _ _).block ≠ _;rw [add_block];exact hn18_0)|exact hn18_0) (.int .i64 t15)).trans hx18_0;clear hn18_0;replace p18:=eq_true p18;replace q18:=eq_true q18)|((with_reducible refine gate_callee (f:=71) rfl ?_);refine goesL_ (some 68) rfl rfl Tryz.func71 (by kernel_rfl) rfl #[.string (rdOf ByteArray.empty t2 2)] rfl (by (try simp only [List.map_toArray,List.map_cons,List.map_nil]);first|done|rfl) ?_;(with_reducible refine (narcissusref02_integer.calls kj34 (rdOf ByteArray.empty t2 2) t19 t20 _ A55.out).mono ?_);rintro e w' ⟨rfl,⟨nd,rfl⟩⟩;refine ⟨_,rfl,?_⟩;have p21:0≤(3:Int):=(by omega);have q21:3<(t2.length:Int):=of_decide_eq_true (by first|(with_reducible assumption)|assumption);obtain ⟨ad21,e21,hx21_0⟩:=Kd.at_string (Kd.R_reads' HO_4.out).2.2 3 p21 q21;obtain rfl:ad14=ad21:=(by injection e21);(try simp only [show (3:Int).toNat=3 from rfl,Nat.reduceMul,Nat.reduceEqDiff,Go.Addr.add,↓reduceIte] at hx21_0);have qi21:(3<t2.length)=True:=eq_true (by omega);(try rw [show ((3:Int)).toNat=3 from rfl] at hx21_0);have hn21_0:ad14.block ≠ gb5:=Kd.own_blk (Kd.R_ne HO_4.out BK5.out (by decide));have hn21_1:ad14.block ≠ gb5:=Kd.own_blk (Kd.R_ne HO_4.out BK5.out (by decide));have hb21_0:=hx21_0;replace hx21_0:=(cell_far (p:=⟨gb5,1,none⟩) (by first|(rw [add_block];exact hn21_0)|(show (Addr.add _ _).block ≠ _;rw [add_block];exact hn21_0)|exact hn21_0) (.int .i64 t15)).trans hx21_0;replace hx21_0:=(cell_far (W:=(wc.setCell ⟨gb5,1,none⟩ (.int .i64 t15)).drewN nd) (p:=⟨gb5,2,none⟩) (by first|(rw [add_block];exact hn21_1)|(show (Addr.add _ _).block ≠ _;rw [add_block];exact hn21_1)|exact hn21_1) (.int .i64 t19)).trans hx21_0;clear hn21_0;clear hn21_1;replace p21:=eq_true p21;replace q21:=eq_true q21)|((with_reducible refine gate_callee (f:=71) rfl ?_);refine goesL_ (some 80) rfl rfl Tryz.func71 (by kernel_rfl) rfl #[.string (rdOf ByteArray.empty t2 3)] rfl (by (try simp only [List.map_toArray,List.map_cons,List.map_nil]);first|done|rfl) ?_;(with_reducible refine (narcissusref02_integer.calls kj34 (rdOf ByteArray.empty t2 3) t22 t23 _ A58.out).mono ?_);rintro e w' ⟨rfl,⟨nd,rfl⟩⟩;refine ⟨_,rfl,?_⟩;have hcz72_0:wc.cell? ⟨gb1,0,none⟩=some (.int .i64 0):=(blk_cell BK1.out 0).trans rfl;have hcz72_1:wc.cell? ⟨gb1,1,none⟩=some (.int .i64 0):=(blk_cell BK1.out 1).trans rfl;have hcz72_2:wc.cell? ⟨gb1,2,none⟩=some (.int .i64 0):=(blk_cell BK1.out 2).trans rfl;have hcz72_3:wc.cell? ⟨gb1,3,none⟩=some (.int .i64 0):=(blk_cell BK1.out 3).trans rfl;have hcz72_4:wc.cell? ⟨gb1,4,none⟩=some (.string (⟨#[]⟩:ByteArray)):=(blk_cell BK1.out 4).trans rfl;have hfz72_0:=blk_frozen BK1.out 0;have hfz72_1:=blk_frozen BK1.out 1;have hfz72_2:=blk_frozen BK1.out 2;have hfz72_3:=blk_frozen BK1.out 3;have hfz72_4:=blk_frozen BK1.out 4))
               refine bodyPost_ret (results_ct rfl _ _ gb1 42 #[.int .i64 x6000_1,.int .i64 t15,.int .i64 t19,.int .i64 t22,.string (⟨#[]⟩:ByteArray)] (0,0) _ rfl (by (with_reducible repeat (first|refine blk_drewN ?_ _|refine blk_drew ?_|refine blk_alloc ?_ _));refine blk_put (cs:=#[.int .i64 x6000_1,.int .i64 t15,.int .i64 t19,.int .i64 t22,.string (⟨#[]⟩:ByteArray)]) ?_ 4 _ rfl;(with_reducible repeat (first|refine blk_drewN ?_ _|refine blk_drew ?_|refine blk_alloc ?_ _));refine blk_put (cs:=#[.int .i64 x6000_1,.int .i64 t15,.int .i64 t19,.int .i64 0,.string (⟨#[]⟩:ByteArray)]) ?_ 3 _ rfl;(with_reducible repeat (first|refine blk_drewN ?_ _|refine blk_drew ?_|refine blk_alloc ?_ _));refine blk_put (cs:=#[.int .i64 x6000_1,.int .i64 t15,.int .i64 0,.int .i64 0,.string (⟨#[]⟩:ByteArray)]) ?_ 2 _ rfl;(with_reducible repeat (first|refine blk_drewN ?_ _|refine blk_drew ?_|refine blk_alloc ?_ _));refine blk_put (cs:=#[.int .i64 x6000_1,.int .i64 0,.int .i64 0,.int .i64 0,.string (⟨#[]⟩:ByteArray)]) ?_ 1 _ rfl;(with_reducible repeat (first|refine blk_drewN ?_ _|refine blk_drew ?_|refine blk_alloc ?_ _));refine blk_put (cs:=#[.int .i64 0,.int .i64 0,.int .i64 0,.int .i64 0,.string (⟨#[]⟩:ByteArray)]) ?_ 0 _ rfl;(with_reducible repeat (first|refine blk_drewN ?_ _|refine blk_drew ?_|refine blk_alloc ?_ _));refine blk_far ?_ NB1_5.out _;(with_reducible repeat (first|refine blk_drewN ?_ _|refine blk_drew ?_|refine blk_alloc ?_ _));refine blk_far ?_ NB1_5.out _;(with_reducible repeat (first|refine blk_drewN ?_ _|refine blk_drew ?_|refine blk_alloc ?_ _));refine blk_far ?_ NB1_5.out _;(with_reducible repeat (first|refine blk_drewN ?_ _|refine blk_drew ?_|refine blk_alloc ?_ _));exact BK1.out) Tryz.underlying42 rfl (by kernel_rfl)) rfl ?_
               exact ⟨by first|rfl|(simp [errW_none,errW_some]<;>rfl)|(simp [*,errW_none,errW_some]<;>rfl),by repeat (first|(with_reducible first|exact HB.out|apply below_alloc|apply pw_below_drewN|apply below_drew1|refine below_set ?_ GE1.out|refine below_set ?_ GE5.out)|exact HB.out)⟩
             ·rw [if_neg c57] at H
              exact absurd H (by simp)
            ·rw [if_neg c56] at H
             have c56b0:(x6000_1 == 2)=false:=beq_eq_false_iff_ne.mpr c56
             have c56b1:(x6000_1 != 2)=true:=bne_iff_ne.mpr c56
             by_cases c73:t16=true
             ·subst c73
              have H1:(some (x6000_1,t15,t19,0,(⟨#[]⟩:ByteArray),t20))=some (r1,r2,r3,r4,r5,r6):=by rw [if_pos rfl] at H;exact H
              clear H;have H:=H1
              clear H1;simp only [Option.some.injEq,Prod.mk.injEq] at H
              obtain ⟨rfl,rfl,rfl,rfl,rfl,rfl⟩:=H
              obtain ⟨Ao74,co74,eo74⟩:=Kd.R_slice HO_4.out
              subst eo74;have p14:0≤(1:Int):=(by omega)
              have q14:1<(t2.length:Int):=of_decide_eq_true (by first|(with_reducible assumption)|assumption)
              obtain ⟨ad14,e14,hx14_0⟩:=Kd.at_string (Kd.R_reads' HO_4.out).2.2 1 p14 q14
              cases e14
              (try simp only [show (1:Int).toNat=1 from rfl,Nat.reduceMul,Nat.reduceEqDiff,Go.Addr.add,↓reduceIte] at hx14_0)
              have qi14:(1<t2.length)=True:=eq_true (by omega)
              (try rw [show ((1:Int)).toNat=1 from rfl] at hx14_0)
              replace p14:=eq_true p14;replace q14:=eq_true q14;go_wp2_with (first|((with_reducible refine gate_callee (f:=71) rfl ?_);refine goesL_ (some 50) rfl rfl Tryz.func71 (by kernel_rfl) rfl #[.string (rdOf ByteArray.empty t2 1)] rfl (by (try simp only [List.map_toArray,List.map_cons,List.map_nil]);first|done|rfl) ?_;(with_reducible refine (narcissusref02_integer.calls kj34 (rdOf ByteArray.empty t2 1) t15 true _ A47.out).mono ?_);rintro e w' ⟨rfl,⟨nd,rfl⟩⟩;refine ⟨_,rfl,?_⟩;(try (rw [drewN_self wc];generalize hq_:World.drewN wc _=wc;have n0_:Aside0 (Kd.R Kd.string 9 wc w.heap.size (fun _=>True) (.slice (some ad14) t2.length co74) t2):=⟨by rw [← hq_];exact (by (with_reducible repeat (first|apply Kd.R_alloc|apply Kd.R_drewN|apply Kd.R_drew));exact HO_4.out)⟩;have n1_:Aside0 (wc.heap[gb1]? = some (.cells #[.int .i64 0,.int .i64 0,.int .i64 0,.int .i64 0,.string (⟨#[]⟩:ByteArray)] 42 (0,0))):=⟨by rw [← hq_];exact (by (with_reducible repeat (first|refine blk_drewN ?_ _|refine blk_drew ?_|refine blk_alloc ?_ _));exact BK1.out)⟩;have n2_:Aside0 (wc.heap[gb5]? = some (.cells #[.int .i64 x6000_1,.int .i64 0,.int .i64 0,.int .i64 0,.string (⟨#[]⟩:ByteArray)] 42 (0,0))):=⟨by rw [← hq_];exact (by (with_reducible repeat (first|refine blk_drewN ?_ _|refine blk_drew ?_|refine blk_alloc ?_ _));exact BK5.out)⟩;have n3_:Aside0 (Below w.heap.size w wc):=⟨by rw [← hq_];exact (by repeat (first|(with_reducible first|exact HB.out|apply below_alloc|apply pw_below_drewN|apply below_drew1|refine below_set ?_ GE1.out|refine below_set ?_ GE5.out)|exact HB.out))⟩;clear HO_4 BK1 BK5 HB hq_;have HO_4:=n0_;have BK1:=n1_;have BK5:=n2_;have HB:=n3_;clear n0_ n1_ n2_ n3_));have hnb75:=NB5_1.out;have hnc75:=NB1_5.out;have hcz76_0:wc.cell? ⟨gb5,0,none⟩=some (.int .i64 x6000_1):=(blk_cell BK5.out 0).trans rfl;have hcz76_1:wc.cell? ⟨gb5,1,none⟩=some (.int .i64 0):=(blk_cell BK5.out 1).trans rfl;have hcz76_2:wc.cell? ⟨gb5,2,none⟩=some (.int .i64 0):=(blk_cell BK5.out 2).trans rfl;have hcz76_3:wc.cell? ⟨gb5,3,none⟩=some (.int .i64 0):=(blk_cell BK5.out 3).trans rfl;have hcz76_4:wc.cell? ⟨gb5,4,none⟩=some (.string (⟨#[]⟩:ByteArray)):=(blk_cell BK5.out 4).trans rfl;have hfz76_0:=blk_frozen BK5.out 0;have hfz76_1:=blk_frozen BK5.out 1;have hfz76_2:=blk_frozen BK5.out 2;have hfz76_3:=blk_frozen BK5.out 3;have hfz76_4:=blk_frozen BK5.out 4;have p18:0≤(2:Int):=(by omega);have q18:2<(t2.length:Int):=of_decide_eq_true (by first|(with_reducible assumption)|assumption);obtain ⟨ad18,e18,hx18_0⟩:=Kd.at_string (Kd.R_reads' HO_4.out).2.2 2 p18 q18;obtain rfl:ad14=ad18:=(by injection e18);(try simp only [show (2:Int).toNat=2 from rfl,Nat.reduceMul,Nat.reduceEqDiff,Go.Addr.add,↓reduceIte] at hx18_0);have qi18:(2<t2.length)=True:=eq_true (by omega);(try rw [show ((2:Int)).toNat=2 from rfl] at hx18_0);have hn18_0:ad14.block ≠ gb5:=Kd.own_blk (Kd.R_ne HO_4.out BK5.out (by decide));replace hx18_0:=(cell_far (p:=⟨gb5,1,none⟩) (by first|(rw [add_block];exact hn18_0)|(show (Addr.add _ _).block ≠ _;rw [add_block];exact hn18_0)|exact hn18_0) (.int .i64 t15)).trans hx18_0;clear hn18_0;replace p18:=eq_true p18;replace q18:=eq_true q18)|((with_reducible refine gate_callee (f:=71) rfl ?_);refine goesL_ (some 68) rfl rfl Tryz.func71 (by kernel_rfl) rfl #[.string (rdOf ByteArray.empty t2 2)] rfl (by (try simp only [List.map_toArray,List.map_cons,List.map_nil]);first|done|rfl) ?_;(with_reducible refine (narcissusref02_integer.calls kj34 (rdOf ByteArray.empty t2 2) t19 t20 _ A55.out).mono ?_);rintro e w' ⟨rfl,⟨nd,rfl⟩⟩;refine ⟨_,rfl,?_⟩;have hcz77_0:wc.cell? ⟨gb1,0,none⟩=some (.int .i64 0):=(blk_cell BK1.out 0).trans rfl;have hcz77_1:wc.cell? ⟨gb1,1,none⟩=some (.int .i64 0):=(blk_cell BK1.out 1).trans rfl;have hcz77_2:wc.cell? ⟨gb1,2,none⟩=some (.int .i64 0):=(blk_cell BK1.out 2).trans rfl;have hcz77_3:wc.cell? ⟨gb1,3,none⟩=some (.int .i64 0):=(blk_cell BK1.out 3).trans rfl;have hcz77_4:wc.cell? ⟨gb1,4,none⟩=some (.string (⟨#[]⟩:ByteArray)):=(blk_cell BK1.out 4).trans rfl;have hfz77_0:=blk_frozen BK1.out 0;have hfz77_1:=blk_frozen BK1.out 1;have hfz77_2:=blk_frozen BK1.out 2;have hfz77_3:=blk_frozen BK1.out 3;have hfz77_4:=blk_frozen BK1.out 4))
              refine bodyPost_ret (results_ct rfl _ _ gb1 42 #[.int .i64 x6000_1,.int .i64 t15,.int .i64 t19,.int .i64 0,.string (⟨#[]⟩:ByteArray)] (0,0) _ rfl (by (with_reducible repeat (first|refine blk_drewN ?_ _|refine blk_drew ?_|refine blk_alloc ?_ _));refine blk_put (cs:=#[.int .i64 x6000_1,.int .i64 t15,.int .i64 t19,.int .i64 0,.string (⟨#[]⟩:ByteArray)]) ?_ 4 _ rfl;(with_reducible repeat (first|refine blk_drewN ?_ _|refine blk_drew ?_|refine blk_alloc ?_ _));refine blk_put (cs:=#[.int .i64 x6000_1,.int .i64 t15,.int .i64 t19,.int .i64 0,.string (⟨#[]⟩:ByteArray)]) ?_ 3 _ rfl;(with_reducible repeat (first|refine blk_drewN ?_ _|refine blk_drew ?_|refine blk_alloc ?_ _));refine blk_put (cs:=#[.int .i64 x6000_1,.int .i64 t15,.int .i64 0,.int .i64 0,.string (⟨#[]⟩:ByteArray)]) ?_ 2 _ rfl;(with_reducible repeat (first|refine blk_drewN ?_ _|refine blk_drew ?_|refine blk_alloc ?_ _));refine blk_put (cs:=#[.int .i64 x6000_1,.int .i64 0,.int .i64 0,.int .i64 0,.string (⟨#[]⟩:ByteArray)]) ?_ 1 _ rfl;(with_reducible repeat (first|refine blk_drewN ?_ _|refine blk_drew ?_|refine blk_alloc ?_ _));refine blk_put (cs:=#[.int .i64 0,.int .i64 0,.int .i64 0,.int .i64 0,.string (⟨#[]⟩:ByteArray)]) ?_ 0 _ rfl;(with_reducible repeat (first|refine blk_drewN ?_ _|refine blk_drew ?_|refine blk_alloc ?_ _));refine blk_far ?_ NB1_5.out _;(with_reducible repeat (first|refine blk_drewN ?_ _|refine blk_drew ?_|refine blk_alloc ?_ _));refine blk_far ?_ NB1_5.out _;(with_reducible repeat (first|refine blk_drewN ?_ _|refine blk_drew ?_|refine blk_alloc ?_ _));exact BK1.out) Tryz.underlying42 rfl (by kernel_rfl)) rfl ?_
              exact ⟨by first|rfl|(simp [errW_none,errW_some]<;>rfl)|(simp [*,errW_none,errW_some]<;>rfl),by repeat (first|(with_reducible first|exact HB.out|apply below_alloc|apply pw_below_drewN|apply below_drew1|refine below_set ?_ GE1.out|refine below_set ?_ GE5.out)|exact HB.out)⟩
             ·replace c73:=Bool.eq_false_iff.mpr c73
              subst c73;have H1:(some (x6000_1,t15,t19,0,(⟨#[]⟩:ByteArray),false))=some (r1,r2,r3,r4,r5,r6):=by rw [if_neg (show ¬ (false=true) by decide)] at H;exact H
              clear H;have H:=H1
              clear H1;simp only [Option.some.injEq,Prod.mk.injEq] at H
              obtain ⟨rfl,rfl,rfl,rfl,rfl,rfl⟩:=H
              obtain ⟨Ao78,co78,eo78⟩:=Kd.R_slice HO_4.out
              subst eo78;have p14:0≤(1:Int):=(by omega)
              have q14:1<(t2.length:Int):=of_decide_eq_true (by first|(with_reducible assumption)|assumption)
              obtain ⟨ad14,e14,hx14_0⟩:=Kd.at_string (Kd.R_reads' HO_4.out).2.2 1 p14 q14
              cases e14
              (try simp only [show (1:Int).toNat=1 from rfl,Nat.reduceMul,Nat.reduceEqDiff,Go.Addr.add,↓reduceIte] at hx14_0)
              have qi14:(1<t2.length)=True:=eq_true (by omega)
              (try rw [show ((1:Int)).toNat=1 from rfl] at hx14_0)
              replace p14:=eq_true p14;replace q14:=eq_true q14;go_wp2_with (first|((with_reducible refine gate_callee (f:=71) rfl ?_);refine goesL_ (some 50) rfl rfl Tryz.func71 (by kernel_rfl) rfl #[.string (rdOf ByteArray.empty t2 1)] rfl (by (try simp only [List.map_toArray,List.map_cons,List.map_nil]);first|done|rfl) ?_;(with_reducible refine (narcissusref02_integer.calls kj34 (rdOf ByteArray.empty t2 1) t15 false _ A47.out).mono ?_);rintro e w' ⟨rfl,⟨nd,rfl⟩⟩;refine ⟨_,rfl,?_⟩;(try (rw [drewN_self wc];generalize hq_:World.drewN wc _=wc;have n0_:Aside0 (Kd.R Kd.string 9 wc w.heap.size (fun _=>True) (.slice (some ad14) t2.length co78) t2):=⟨by rw [← hq_];exact (by (with_reducible repeat (first|apply Kd.R_alloc|apply Kd.R_drewN|apply Kd.R_drew));exact HO_4.out)⟩;have n1_:Aside0 (wc.heap[gb1]? = some (.cells #[.int .i64 0,.int .i64 0,.int .i64 0,.int .i64 0,.string (⟨#[]⟩:ByteArray)] 42 (0,0))):=⟨by rw [← hq_];exact (by (with_reducible repeat (first|refine blk_drewN ?_ _|refine blk_drew ?_|refine blk_alloc ?_ _));exact BK1.out)⟩;have n2_:Aside0 (wc.heap[gb5]? = some (.cells #[.int .i64 x6000_1,.int .i64 0,.int .i64 0,.int .i64 0,.string (⟨#[]⟩:ByteArray)] 42 (0,0))):=⟨by rw [← hq_];exact (by (with_reducible repeat (first|refine blk_drewN ?_ _|refine blk_drew ?_|refine blk_alloc ?_ _));exact BK5.out)⟩;have n3_:Aside0 (Below w.heap.size w wc):=⟨by rw [← hq_];exact (by repeat (first|(with_reducible first|exact HB.out|apply below_alloc|apply pw_below_drewN|apply below_drew1|refine below_set ?_ GE1.out|refine below_set ?_ GE5.out)|exact HB.out))⟩;clear HO_4 BK1 BK5 HB hq_;have HO_4:=n0_;have BK1:=n1_;have BK5:=n2_;have HB:=n3_;clear n0_ n1_ n2_ n3_));have hnb79:=NB5_1.out;have hnc79:=NB1_5.out;have hcz80_0:wc.cell? ⟨gb5,0,none⟩=some (.int .i64 x6000_1):=(blk_cell BK5.out 0).trans rfl;have hcz80_1:wc.cell? ⟨gb5,1,none⟩=some (.int .i64 0):=(blk_cell BK5.out 1).trans rfl;have hcz80_2:wc.cell? ⟨gb5,2,none⟩=some (.int .i64 0):=(blk_cell BK5.out 2).trans rfl;have hcz80_3:wc.cell? ⟨gb5,3,none⟩=some (.int .i64 0):=(blk_cell BK5.out 3).trans rfl;have hcz80_4:wc.cell? ⟨gb5,4,none⟩=some (.string (⟨#[]⟩:ByteArray)):=(blk_cell BK5.out 4).trans rfl;have hfz80_0:=blk_frozen BK5.out 0;have hfz80_1:=blk_frozen BK5.out 1;have hfz80_2:=blk_frozen BK5.out 2;have hfz80_3:=blk_frozen BK5.out 3;have hfz80_4:=blk_frozen BK5.out 4;have p18:0≤(2:Int):=(by omega);have q18:2<(t2.length:Int):=of_decide_eq_true (by first|(with_reducible assumption)|assumption);obtain ⟨ad18,e18,hx18_0⟩:=Kd.at_string (Kd.R_reads' HO_4.out).2.2 2 p18 q18;obtain rfl:ad14=ad18:=(by injection e18);(try simp only [show (2:Int).toNat=2 from rfl,Nat.reduceMul,Nat.reduceEqDiff,Go.Addr.add,↓reduceIte] at hx18_0);have qi18:(2<t2.length)=True:=eq_true (by omega);(try rw [show ((2:Int)).toNat=2 from rfl] at hx18_0);have hn18_0:ad14.block ≠ gb5:=Kd.own_blk (Kd.R_ne HO_4.out BK5.out (by decide));replace hx18_0:=(cell_far (p:=⟨gb5,1,none⟩) (by first|(rw [add_block];exact hn18_0)|(show (Addr.add _ _).block ≠ _;rw [add_block];exact hn18_0)|exact hn18_0) (.int .i64 t15)).trans hx18_0;clear hn18_0;replace p18:=eq_true p18;replace q18:=eq_true q18)|((with_reducible refine gate_callee (f:=71) rfl ?_);refine goesL_ (some 68) rfl rfl Tryz.func71 (by kernel_rfl) rfl #[.string (rdOf ByteArray.empty t2 2)] rfl (by (try simp only [List.map_toArray,List.map_cons,List.map_nil]);first|done|rfl) ?_;(with_reducible refine (narcissusref02_integer.calls kj34 (rdOf ByteArray.empty t2 2) t19 t20 _ A55.out).mono ?_);rintro e w' ⟨rfl,⟨nd,rfl⟩⟩;refine ⟨_,rfl,?_⟩;have hcz81_0:wc.cell? ⟨gb1,0,none⟩=some (.int .i64 0):=(blk_cell BK1.out 0).trans rfl;have hcz81_1:wc.cell? ⟨gb1,1,none⟩=some (.int .i64 0):=(blk_cell BK1.out 1).trans rfl;have hcz81_2:wc.cell? ⟨gb1,2,none⟩=some (.int .i64 0):=(blk_cell BK1.out 2).trans rfl;have hcz81_3:wc.cell? ⟨gb1,3,none⟩=some (.int .i64 0):=(blk_cell BK1.out 3).trans rfl;have hcz81_4:wc.cell? ⟨gb1,4,none⟩=some (.string (⟨#[]⟩:ByteArray)):=(blk_cell BK1.out 4).trans rfl;have hfz81_0:=blk_frozen BK1.out 0;have hfz81_1:=blk_frozen BK1.out 1;have hfz81_2:=blk_frozen BK1.out 2;have hfz81_3:=blk_frozen BK1.out 3;have hfz81_4:=blk_frozen BK1.out 4))
              refine bodyPost_ret (results_ct rfl _ _ gb1 42 #[.int .i64 x6000_1,.int .i64 t15,.int .i64 t19,.int .i64 0,.string (⟨#[]⟩:ByteArray)] (0,0) _ rfl (by (with_reducible repeat (first|refine blk_drewN ?_ _|refine blk_drew ?_|refine blk_alloc ?_ _));refine blk_put (cs:=#[.int .i64 x6000_1,.int .i64 t15,.int .i64 t19,.int .i64 0,.string (⟨#[]⟩:ByteArray)]) ?_ 4 _ rfl;(with_reducible repeat (first|refine blk_drewN ?_ _|refine blk_drew ?_|refine blk_alloc ?_ _));refine blk_put (cs:=#[.int .i64 x6000_1,.int .i64 t15,.int .i64 t19,.int .i64 0,.string (⟨#[]⟩:ByteArray)]) ?_ 3 _ rfl;(with_reducible repeat (first|refine blk_drewN ?_ _|refine blk_drew ?_|refine blk_alloc ?_ _));refine blk_put (cs:=#[.int .i64 x6000_1,.int .i64 t15,.int .i64 0,.int .i64 0,.string (⟨#[]⟩:ByteArray)]) ?_ 2 _ rfl;(with_reducible repeat (first|refine blk_drewN ?_ _|refine blk_drew ?_|refine blk_alloc ?_ _));refine blk_put (cs:=#[.int .i64 x6000_1,.int .i64 0,.int .i64 0,.int .i64 0,.string (⟨#[]⟩:ByteArray)]) ?_ 1 _ rfl;(with_reducible repeat (first|refine blk_drewN ?_ _|refine blk_drew ?_|refine blk_alloc ?_ _));refine blk_put (cs:=#[.int .i64 0,.int .i64 0,.int .i64 0,.int .i64 0,.string (⟨#[]⟩:ByteArray)]) ?_ 0 _ rfl;(with_reducible repeat (first|refine blk_drewN ?_ _|refine blk_drew ?_|refine blk_alloc ?_ _));refine blk_far ?_ NB1_5.out _;(with_reducible repeat (first|refine blk_drewN ?_ _|refine blk_drew ?_|refine blk_alloc ?_ _));refine blk_far ?_ NB1_5.out _;(with_reducible repeat (first|refine blk_drewN ?_ _|refine blk_drew ?_|refine blk_alloc ?_ _));exact BK1.out) Tryz.underlying42 rfl (by kernel_rfl)) rfl ?_
              exact ⟨by first|rfl|(simp [errW_none,errW_some]<;>rfl)|(simp [*,errW_none,errW_some]<;>rfl),by repeat (first|(with_reducible first|exact HB.out|apply below_alloc|apply pw_below_drewN|apply below_drew1|refine below_set ?_ GE1.out|refine below_set ?_ GE5.out)|exact HB.out)⟩
           ·rw [if_neg c54] at H
            exact absurd H (by simp)
         ·rw [if_neg c46] at H
          exact absurd H (by simp)
end
section
attribute [local go_sem] max2_int min2_int max_two min_two max_three min_three max_four min_four
mutual
def narcissusref02_Parse.l0:Nat→ByteArray→List (S42)→Int→Int→Option ((List (S42)) × Bool)
 | 0,_,_,_,_=>none
 | k+1,x0,x4,x5,x6=>if x6≤(x0.size:Int) then (if x6<(x0.size:Int) then (if 0≤x6 then (narcissusref02_Parse.j1 k x0 x4 x5 x6 ((bt x0 x6) != 59)) else (none)) else (narcissusref02_Parse.j1 k x0 x4 x5 x6 false)) else ((narcissusref02_Valid.f k x4).bind fun t1=>(if t1=true then ((narcissusref02_Text.f k x4).bind fun t2=>(some (x4,(t2.toList == x0.toList)))) else (some (x4,false))))
def narcissusref02_Parse.j1:Nat→ByteArray→List (S42)→Int→Int→Bool→Option ((List (S42)) × Bool)
 | 0,_,_,_,_,_=>none
 | k+1,x0,x4,x5,x6,x27=>if x27=true then (narcissusref02_Parse.l0 k x0 x4 x5 (wrap64 (x6+1))) else (if 0≤x5 then (if x5≤x6 then (if x6≤(x0.size:Int) then ((narcissusref02_read.f k (x0.extract (x5:Int).toNat (x6:Int).toNat)).bind fun bt3=>(if bt3.2.2.2.2.2=true then (if x6<(wrap64 ((x0.size:Int) - 1)) then (if 0≤(wrap64 (x6+1)) then (if (wrap64 (x6+1))<(x0.size:Int) then (if (bt x0 (wrap64 (x6+1)))=32 then (if x6=(wrap64 ((x0.size:Int) - 1)) then (some (([]:List (S42)),false)) else (if (x4.length:Int)=4000 then (some (([]:List (S42)),false)) else (if x4.length<2932031007402 then (narcissusref02_Parse.l0 k x0 (x4 ++ [(⟨bt3.1,bt3.2.1,bt3.2.2.1,bt3.2.2.2.1,bt3.2.2.2.2.1⟩:S42)]) (wrap64 (x6+2)) (wrap64 (x6+1))) else (none)))) else (some (([]:List (S42)),false))) else (none)) else (none)) else (if x6=(wrap64 ((x0.size:Int) - 1)) then (some (([]:List (S42)),false)) else (if (x4.length:Int)=4000 then (some (([]:List (S42)),false)) else (if x4.length<2932031007402 then (narcissusref02_Parse.l0 k x0 (x4 ++ [(⟨bt3.1,bt3.2.1,bt3.2.2.1,bt3.2.2.2.1,bt3.2.2.2.2.1⟩:S42)]) (wrap64 (x6+2)) (wrap64 (x6+1))) else (none))))) else (some (([]:List (S42)),false)))) else (none)) else (none)) else (none))
end
def narcissusref02_Parse.f (k:Nat) (a0:ByteArray):Option ((List (S42)) × Bool):=if a0.toList=([]:List UInt8) then (some (([]:List (S42)),true)) else (narcissusref02_Parse.l0 k a0 ([]:List (S42)) 0 0)
theorem narcissusref02_Parse.mono_l : ∀ k,(∀ y0 y1 y2 y3,LeO (narcissusref02_Parse.l0 k y0 y1 y2 y3) (narcissusref02_Parse.l0 (k+1) y0 y1 y2 y3))∧(∀ y0 y1 y2 y3 y4,LeO (narcissusref02_Parse.j1 k y0 y1 y2 y3 y4) (narcissusref02_Parse.j1 (k+1) y0 y1 y2 y3 y4))
 | 0=>⟨fun _ _ _ _ r h=>by simp [narcissusref02_Parse.l0] at h,fun _ _ _ _ _ r h=>by simp [narcissusref02_Parse.j1] at h⟩
 | k+1=>by
  obtain ⟨ih0,ih1⟩:=narcissusref02_Parse.mono_l k
  refine ⟨?_,?_⟩
  ·intro y0 y1 y2 y3
   unfold narcissusref02_Parse.l0
   repeat' first
   | (with_reducible exact ih0 _ _ _ _)
   | (with_reducible exact ih1 _ _ _ _ _)
   | (with_reducible exact narcissusref02_Text.mono _ _)
   | (with_reducible exact narcissusref02_Valid.mono _ _)
   | (with_reducible exact narcissusref02_read.mono _ _)
   | (with_reducible exact LeO.refl _)
   | (with_reducible exact LeO.none _)
   | (with_reducible refine LeO.ite ?_ ?_)
   | (with_reducible refine LeO.bind ?_ (fun _=>?_))
   | exact ih0 _ _ _ _
   | exact ih1 _ _ _ _ _
   | exact narcissusref02_Text.mono _ _
   | exact narcissusref02_Valid.mono _ _
   | exact narcissusref02_read.mono _ _
   | exact LeO.none _
   | refine LeO.ite ?_ ?_
   | refine LeO.bind ?_ (fun _=>?_)
  ·intro y0 y1 y2 y3 y4
   unfold narcissusref02_Parse.j1
   repeat' first
   | (with_reducible exact ih0 _ _ _ _)
   | (with_reducible exact ih1 _ _ _ _ _)
   | (with_reducible exact narcissusref02_Text.mono _ _)
   | (with_reducible exact narcissusref02_Valid.mono _ _)
   | (with_reducible exact narcissusref02_read.mono _ _)
   | (with_reducible exact LeO.refl _)
   | (with_reducible exact LeO.none _)
   | (with_reducible refine LeO.ite ?_ ?_)
   | (with_reducible refine LeO.bind ?_ (fun _=>?_))
   | exact ih0 _ _ _ _
   | exact ih1 _ _ _ _ _
   | exact narcissusref02_Text.mono _ _
   | exact narcissusref02_Valid.mono _ _
   | exact narcissusref02_read.mono _ _
   | exact LeO.none _
   | refine LeO.ite ?_ ?_
   | refine LeO.bind ?_ (fun _=>?_)
theorem narcissusref02_Parse.mono : ∀ a0 k,LeO (narcissusref02_Parse.f k a0) (narcissusref02_Parse.f (k+1) a0):=by
 intro a0 k
 obtain ⟨ih0,ih1⟩:=narcissusref02_Parse.mono_l k
 unfold narcissusref02_Parse.f
 repeat' first
   | (with_reducible exact ih0 _ _ _ _)
   | (with_reducible exact ih1 _ _ _ _ _)
   | (with_reducible exact narcissusref02_Text.mono _ _)
   | (with_reducible exact narcissusref02_Valid.mono _ _)
   | (with_reducible exact narcissusref02_read.mono _ _)
   | (with_reducible exact LeO.refl _)
   | (with_reducible exact LeO.none _)
   | (with_reducible refine LeO.ite ?_ ?_)
   | (with_reducible refine LeO.bind ?_ (fun _=>?_))
   | exact ih0 _ _ _ _
   | exact ih1 _ _ _ _ _
   | exact narcissusref02_Text.mono _ _
   | exact narcissusref02_Valid.mono _ _
   | exact narcissusref02_read.mono _ _
   | exact LeO.none _
   | refine LeO.ite ?_ ?_
   | refine LeO.bind ?_ (fun _=>?_)
set_option maxHeartbeats 8000000 in
set_option maxRecDepth 100000 in
theorem narcissusref02_Parse.calls (k:Nat) (a0:ByteArray) (r1:List (S42)) (r2:Bool) (w:World) (h:narcissusref02_Parse.f k a0=some (r1,r2)) :
  Calls Tryz.prog 14 #[.string a0] w fun e w' => ∃ v0_:Value,e = .returned (.tuple #[v0_,.bool r2])∧Kd.R k42 42 w' w.heap.size (fun _=>True) v0_ r1∧Below w.heap.size w w':=by
 have hu42:=Tryz.underlying42
 have HB:=Aside0.mk (Below.refl w.heap.size w)
 have H:(if a0.toList=([]:List UInt8) then (some (([]:List (S42)),true)) else (narcissusref02_Parse.l0 k a0 ([]:List (S42)) 0 0))=some (r1,r2):=h
 clear h;by_cases c2:a0.toList=([]:List UInt8)
 ·rw [if_pos c2] at H
  have c2b0:(a0.toList == ([]:List UInt8))=true:=beq_iff_eq.mpr c2
  have c2b1:(a0.toList != ([]:List UInt8))=false:=bne_eq_false_iff_eq.mpr c2
  clear c2;simp only [Option.some.injEq,Prod.mk.injEq] at H
  obtain ⟨rfl,rfl⟩:=H
  go_enter Tryz.func14,Tryz.ntmps14
  go_wp2
  go_ret2
  exact ⟨_,by first|rfl|(simp [errW_none,errW_some]<;>rfl)|(simp [*,errW_none,errW_some]<;>rfl),by first|exact Kd.R_nil _ _ _ _ _|exact Kd.N_nil _ _ _ _ _|exact Kd.V_nil _ _ _ _ _|exact Kd.Q_nil _ _ _ _ _|exact Kd.S_nil _ _ _ _ _,by repeat (first|(with_reducible first|exact HB.out|apply below_alloc|apply pw_below_drewN|apply below_drew1)|exact HB.out)⟩
 ·rw [if_neg c2] at H
  have c2b0:(a0.toList == ([]:List UInt8))=false:=beq_eq_false_iff_ne.mpr c2
  have c2b1:(a0.toList != ([]:List UInt8))=true:=bne_iff_ne.mpr c2
  have H':=Aside0.mk H
  clear H;go_enter Tryz.func14,Tryz.ntmps14
  go_wp2
  go_loopg [4,5,6] k (fun kq v4 v5 v6 w' => ∃ (x4_1:List (S42)) (x5_1:Int) (x6_1:Int),v5 = .int .i64 x5_1∧v6 = .int .i64 x6_1∧Aside0 (narcissusref02_Parse.l0 kq a0 x4_1 x5_1 x6_1=some (r1,r2))∧Aside0 (kq≤k)∧Aside0 (Kd.R k42 42 w' w.heap.size (fun _=>True) v4 x4_1)∧Aside0 (Below w.heap.size w w'))
  case atStart=>exact ⟨(([]:List (S42))),(0),(0),(by first|rfl|(simp;done)|(simp [*];done)),(by first|rfl|(simp;done)|(simp [*];done)),H',⟨Nat.le_refl _⟩,⟨by first|exact Kd.R_nil _ _ _ _ _|exact Kd.N_nil _ _ _ _ _|exact Kd.V_nil _ _ _ _ _|exact Kd.Q_nil _ _ _ _ _|exact Kd.S_nil _ _ _ _ _⟩,⟨by repeat (first|(with_reducible first|exact HB.out|apply below_alloc|apply pw_below_drewN|apply below_drew1)|exact HB.out)⟩⟩
  case round =>
   clear H';try clear c1
   try clear c2
   try clear c2b0
   try clear c2b1
   try clear p2
   obtain ⟨x4_1,x5_1,x6_1,rfl,rfl,HA,HK1,HO_4,HB⟩:=hrel
   cases gk with
   | zero=>exact absurd HA.out (by simp [narcissusref02_Parse.l0])
   | succ k1 =>
    have H:=HA.out
    clear HA;simp only [narcissusref02_Parse.l0] at H
    by_cases c3:x6_1≤(a0.size:Int)
    ·rw [if_pos c3] at H
     have c3b0:decide (x6_1≤(a0.size:Int))=true:=decide_eq_true c3
     clear c3;have HC4:=Aside0.mk H
     clear H;go_upto_region 8 with (fail)
     go_cut [27] (fun v27 wc => ∃ (kq:Nat) (x27_3:Bool),v27 = .bool x27_3∧Aside0 (narcissusref02_Parse.j1 kq a0 x4_1 x5_1 x6_1 x27_3=some (r1,r2))∧Aside0 (kq≤k1)∧Aside0 (Kd.R k42 42 wc w.heap.size (fun _=>True) u4 x4_1)∧Aside0 (Below w.heap.size w wc))
     case first =>
      have H:=HC4.out
      clear HC4;by_cases c5:x6_1<(a0.size:Int)
      ·rw [if_pos c5] at H
       have c5b0:decide (x6_1<(a0.size:Int))=true:=decide_eq_true c5
       clear c5;(first|rw [c5b0]|(simp only [i64_w,i32_w];rw [c5b0])|skip)
       by_cases c6:0≤x6_1
       ·rw [if_pos c6] at H
        have c6b0:decide (0≤x6_1)=true:=decide_eq_true c6
        clear c6;have H':=Aside0.mk H
        clear H;have p7:0≤(x6_1:Int):=of_decide_eq_true (by first|(with_reducible assumption)|assumption)
        have q7:x6_1<(a0.size:Int):=of_decide_eq_true (by first|(with_reducible assumption)|assumption)
        have hx7:=bt_at a0 x6_1
        replace p7:=eq_true p7;replace q7:=eq_true q7;go_wp2
        go_meet
        case rel=>exact ⟨_,(((bt a0 x6_1) != 59)),(by first|rfl|(simp;done)|(simp [*];done)),H',⟨by have:=HK1.out;first|omega|exact Nat.le_refl _⟩,⟨by (with_reducible repeat (first|apply Kd.R_alloc|apply Kd.R_drewN|apply Kd.R_drew));exact HO_4.out⟩,⟨by repeat (first|(with_reducible first|exact HB.out|apply below_alloc|apply pw_below_drewN|apply below_drew1)|exact HB.out)⟩⟩
       ·rw [if_neg c6] at H
        exact absurd H (by simp)
      ·rw [if_neg c5] at H
       have c5b0:decide (x6_1<(a0.size:Int))=false:=decide_eq_false c5
       clear c5;(first|rw [c5b0]|(simp only [i64_w,i32_w];rw [c5b0])|skip)
       have H':=Aside0.mk H
       clear H;go_wp2
       go_meet
       case rel=>exact ⟨_,(false),(by first|rfl|(simp;done)|(simp [*];done)),H',⟨by have:=HK1.out;first|omega|exact Nat.le_refl _⟩,⟨by (with_reducible repeat (first|apply Kd.R_alloc|apply Kd.R_drewN|apply Kd.R_drew));exact HO_4.out⟩,⟨by repeat (first|(with_reducible first|exact HB.out|apply below_alloc|apply pw_below_drewN|apply below_drew1)|exact HB.out)⟩⟩
     case rest =>
      clear HC4;try clear c1
      try clear c2
      try clear c2b0
      try clear c2b1
      try clear p2
      try clear c3
      try clear c3b0
      try clear c5
      try clear c5b0
      try clear c6
      try clear c6b0
      try clear p7
      try clear q7
      try clear hx7
      try clear p2
      try clear p7
      try clear q7
      obtain ⟨kq,x27_3,rfl,HA,HJ3,HO_4,HB⟩:=hcut
      cases kq with
      | zero=>exact absurd HA.out (by simp [narcissusref02_Parse.j1])
      | succ kj3 =>
       have H:=HA.out
       clear HA;simp only [narcissusref02_Parse.j1] at H
       by_cases c8:x27_3=true
       ·subst c8
        have H1:(narcissusref02_Parse.l0 kj3 a0 x4_1 x5_1 (wrap64 (x6_1+1)))=some (r1,r2):=by rw [if_pos rfl] at H;exact H
        clear H;have H:=H1
        clear H1;have H':=Aside0.mk H
        clear H;go_wp2
        go_roundg kj3
        case measure=>have:=HK1.out;have:=HJ3.out;omega
        case rel=>exact ⟨(x4_1),(x5_1),(wrap64 (x6_1+1)),(by first|rfl|(simp;done)|(simp [*];done)),(by first|rfl|(simp;done)|(simp [*];done)),H',⟨by have:=HK1.out;have:=HJ3.out;omega⟩,⟨by (with_reducible repeat (first|apply Kd.R_alloc|apply Kd.R_drewN|apply Kd.R_drew));exact HO_4.out⟩,⟨by repeat (first|(with_reducible first|exact HB.out|apply below_alloc|apply pw_below_drewN|apply below_drew1)|exact HB.out)⟩⟩
       ·replace c8:=Bool.eq_false_iff.mpr c8
        subst c8;have H1:(if 0≤x5_1 then (if x5_1≤x6_1 then (if x6_1≤(a0.size:Int) then ((narcissusref02_read.f kj3 (a0.extract (x5_1:Int).toNat (x6_1:Int).toNat)).bind fun bt3=>(if bt3.2.2.2.2.2=true then (if x6_1<(wrap64 ((a0.size:Int) - 1)) then (if 0≤(wrap64 (x6_1+1)) then (if (wrap64 (x6_1+1))<(a0.size:Int) then (if (bt a0 (wrap64 (x6_1+1)))=32 then (if x6_1=(wrap64 ((a0.size:Int) - 1)) then (some (([]:List (S42)),false)) else (if (x4_1.length:Int)=4000 then (some (([]:List (S42)),false)) else (if x4_1.length<2932031007402 then (narcissusref02_Parse.l0 kj3 a0 (x4_1 ++ [(⟨bt3.1,bt3.2.1,bt3.2.2.1,bt3.2.2.2.1,bt3.2.2.2.2.1⟩:S42)]) (wrap64 (x6_1+2)) (wrap64 (x6_1+1))) else (none)))) else (some (([]:List (S42)),false))) else (none)) else (none)) else (if x6_1=(wrap64 ((a0.size:Int) - 1)) then (some (([]:List (S42)),false)) else (if (x4_1.length:Int)=4000 then (some (([]:List (S42)),false)) else (if x4_1.length<2932031007402 then (narcissusref02_Parse.l0 kj3 a0 (x4_1 ++ [(⟨bt3.1,bt3.2.1,bt3.2.2.1,bt3.2.2.2.1,bt3.2.2.2.2.1⟩:S42)]) (wrap64 (x6_1+2)) (wrap64 (x6_1+1))) else (none))))) else (some (([]:List (S42)),false)))) else (none)) else (none)) else (none))=some (r1,r2):=by rw [if_neg (show ¬ (false=true) by decide)] at H;exact H
        clear H;have H:=H1
        clear H1;by_cases c9:0≤x5_1
        ·rw [if_pos c9] at H
         have c9b0:=eq_true c9
         have c9b1:decide (0≤x5_1)=true:=decide_eq_true c9
         clear c9;by_cases c10:x5_1≤x6_1
         ·rw [if_pos c10] at H
          have c10b0:=eq_true c10
          have c10b1:decide (x5_1≤x6_1)=true:=decide_eq_true c10
          clear c10;by_cases c11:x6_1≤(a0.size:Int)
          ·rw [if_pos c11] at H
           have c11b0:=eq_true c11
           have c11b1:decide (x6_1≤(a0.size:Int))=true:=decide_eq_true c11
           clear c11;replace H:=Option.bind_eq_some_iff.mp H
           obtain ⟨⟨t3,t4,t5,t6,t7,t8⟩,A120,H⟩:=H
           replace H:(if t8=true then (if x6_1<(wrap64 ((a0.size:Int) - 1)) then (if 0≤(wrap64 (x6_1+1)) then (if (wrap64 (x6_1+1))<(a0.size:Int) then (if (bt a0 (wrap64 (x6_1+1)))=32 then (if x6_1=(wrap64 ((a0.size:Int) - 1)) then (some (([]:List (S42)),false)) else (if (x4_1.length:Int)=4000 then (some (([]:List (S42)),false)) else (if x4_1.length<2932031007402 then (narcissusref02_Parse.l0 kj3 a0 (x4_1 ++ [(⟨t3,t4,t5,t6,t7⟩:S42)]) (wrap64 (x6_1+2)) (wrap64 (x6_1+1))) else (none)))) else (some (([]:List (S42)),false))) else (none)) else (none)) else (if x6_1=(wrap64 ((a0.size:Int) - 1)) then (some (([]:List (S42)),false)) else (if (x4_1.length:Int)=4000 then (some (([]:List (S42)),false)) else (if x4_1.length<2932031007402 then (narcissusref02_Parse.l0 kj3 a0 (x4_1 ++ [(⟨t3,t4,t5,t6,t7⟩:S42)]) (wrap64 (x6_1+2)) (wrap64 (x6_1+1))) else (none))))) else (some (([]:List (S42)),false)))=some (r1,r2):=H
           have A12:=Aside0.mk A120
           clear A120;by_cases c13:t8=true
           ·subst c13
            have H1:(if x6_1<(wrap64 ((a0.size:Int) - 1)) then (if 0≤(wrap64 (x6_1+1)) then (if (wrap64 (x6_1+1))<(a0.size:Int) then (if (bt a0 (wrap64 (x6_1+1)))=32 then (if x6_1=(wrap64 ((a0.size:Int) - 1)) then (some (([]:List (S42)),false)) else (if (x4_1.length:Int)=4000 then (some (([]:List (S42)),false)) else (if x4_1.length<2932031007402 then (narcissusref02_Parse.l0 kj3 a0 (x4_1 ++ [(⟨t3,t4,t5,t6,t7⟩:S42)]) (wrap64 (x6_1+2)) (wrap64 (x6_1+1))) else (none)))) else (some (([]:List (S42)),false))) else (none)) else (none)) else (if x6_1=(wrap64 ((a0.size:Int) - 1)) then (some (([]:List (S42)),false)) else (if (x4_1.length:Int)=4000 then (some (([]:List (S42)),false)) else (if x4_1.length<2932031007402 then (narcissusref02_Parse.l0 kj3 a0 (x4_1 ++ [(⟨t3,t4,t5,t6,t7⟩:S42)]) (wrap64 (x6_1+2)) (wrap64 (x6_1+1))) else (none)))))=some (r1,r2):=by rw [if_pos rfl] at H;exact H
            clear H;have H:=H1
            clear H1;by_cases c14:x6_1<(wrap64 ((a0.size:Int) - 1))
            ·rw [if_pos c14] at H
             have c14b0:decide (x6_1<(wrap64 ((a0.size:Int) - 1)))=true:=decide_eq_true c14
             clear c14;obtain ⟨ji15,hji15⟩ : ∃ j_:Int,(wrap64 (x6_1+1))=j_:=⟨_,rfl⟩
             replace H:(if 0≤(ji15) then (if (ji15)<(a0.size:Int) then (if (bt a0 (ji15))=32 then (if x6_1=(wrap64 ((a0.size:Int) - 1)) then (some (([]:List (S42)),false)) else (if (x4_1.length:Int)=4000 then (some (([]:List (S42)),false)) else (if x4_1.length<2932031007402 then (narcissusref02_Parse.l0 kj3 a0 (x4_1 ++ [(⟨t3,t4,t5,t6,t7⟩:S42)]) (wrap64 (x6_1+2)) ji15) else (none)))) else (some (([]:List (S42)),false))) else (none)) else (none))=some (r1,r2):=by first|(rw [hji15] at H;exact H)|(simp only [hji15] at H ⊢;exact H)
             (try rw [hji15] at A12)
             have hji15w:(IntKind.i64.wrap (x6_1+1))=ji15:=(i64_w _).trans hji15
             by_cases c16:0≤(ji15)
             ·rw [if_pos c16] at H
              have c16b0:decide (0≤(ji15))=true:=decide_eq_true c16
              clear c16;by_cases c17:(ji15)<(a0.size:Int)
              ·rw [if_pos c17] at H
               have c17b0:decide ((ji15)<(a0.size:Int))=true:=decide_eq_true c17
               clear c17;by_cases c19:(bt a0 (ji15))=32
               ·rw [if_pos c19] at H
                have c19b0:((bt a0 (ji15)) == 32)=true:=beq_iff_eq.mpr c19
                have c19b1:((bt a0 (ji15)) != 32)=false:=bne_eq_false_iff_eq.mpr c19
                clear c19;by_cases c20:x6_1=(wrap64 ((a0.size:Int) - 1))
                ·rw [if_pos c20] at H
                 have c20b0:(x6_1 == (wrap64 ((a0.size:Int) - 1)))=true:=beq_iff_eq.mpr c20
                 have c20b1:(x6_1 != (wrap64 ((a0.size:Int) - 1)))=false:=bne_eq_false_iff_eq.mpr c20
                 clear c20;simp only [Option.some.injEq,Prod.mk.injEq] at H
                 obtain ⟨rfl,rfl⟩:=H
                 go_wp2_with (first|((with_reducible refine gate_callee (f:=38) rfl ?_);refine goesL_ (some 33) rfl rfl Tryz.func38 (by kernel_rfl) rfl #[.string (a0.extract (x5_1:Int).toNat (x6_1:Int).toNat)] rfl (by (try simp only [List.map_toArray,List.map_cons,List.map_nil]);first|done|rfl) ?_;(with_reducible refine (narcissusref02_read.calls kj3 (a0.extract (x5_1:Int).toNat (x6_1:Int).toNat) t3 t4 t5 t6 t7 true _ A12.out).mono ?_);rintro e w21 ⟨rfl,hb⟩;refine ⟨_,rfl,?_⟩;have n0_:=Aside0.mk (Kd.R_below (by (with_reducible repeat (first|apply Kd.R_alloc|apply Kd.R_drewN|apply Kd.R_drew));exact HO_4.out) hb);have n1_:=Aside0.mk (below_step (by repeat (first|(with_reducible first|exact HB.out|apply below_alloc|apply pw_below_drewN|apply below_drew1)|exact HB.out)) hb);clear HO_4;clear HB;have HO_4:=n0_;have HB:=n1_;clear n0_ n1_;(try clear hb);(try clear hb2);(try clear hk);(try clear hi))|((with_reducible refine gate_dst (N:=7) rfl ?_);(try (refine gate_guard (by rfl) ?_;dsimp only));refine box_event ?hg (N:=7) ?hd (cs:=#[.int .i64 0,.int .i64 0,.int .i64 0,.int .i64 0,.string (⟨#[]⟩:ByteArray)]) (t:=42) ?hr ?_;(case hd=>rfl);(case hg=>rfl);(case hr=>first|(go_simp;done)|(go_simp;rfl));intro gb9 hg w22 hbox hb;have n0_:=Aside0.mk (Kd.R_below (Kd.R_elderB (by (with_reducible repeat (first|apply Kd.R_alloc|apply Kd.R_drewN|apply Kd.R_drew));exact HO_4.out) gb9 (Nat.le_of_eq hg.symm)) hb);have n1_:=Aside0.mk (below_step (by repeat (first|(with_reducible first|exact HB.out|apply below_alloc|apply pw_below_drewN|apply below_drew1)|exact HB.out)) hb);have n2_:=Aside0.mk (hbox);have n3_:=Aside0.mk ((by rw [hg];exact (below_size (by repeat (first|(with_reducible first|exact HB.out|apply below_alloc|apply pw_below_drewN|apply below_drew1)|exact HB.out))):w.heap.size≤gb9));have n4_:=Aside0.mk ((by rw [hg];exact (below_size (by repeat (first|(with_reducible first|exact HB.out|apply below_alloc|apply pw_below_drewN|apply below_drew1)|exact HB.out))):w.heap.size≤gb9));clear HO_4;clear HB;have HO_4:=n0_;have HB:=n1_;have BK9:=n2_;have GW9:=n3_;have GE9:=n4_;clear n0_ n1_ n2_ n3_ n4_;clear hb hbox hg;have hcz23_0:w22.cell? ⟨gb9,0,none⟩=some (.int .i64 0):=(blk_cell BK9.out 0).trans rfl;have hcz23_1:w22.cell? ⟨gb9,1,none⟩=some (.int .i64 0):=(blk_cell BK9.out 1).trans rfl;have hcz23_2:w22.cell? ⟨gb9,2,none⟩=some (.int .i64 0):=(blk_cell BK9.out 2).trans rfl;have hcz23_3:w22.cell? ⟨gb9,3,none⟩=some (.int .i64 0):=(blk_cell BK9.out 3).trans rfl;have hcz23_4:w22.cell? ⟨gb9,4,none⟩=some (.string (⟨#[]⟩:ByteArray)):=(blk_cell BK9.out 4).trans rfl;have hfz23_0:=blk_frozen BK9.out 0;have hfz23_1:=blk_frozen BK9.out 1;have hfz23_2:=blk_frozen BK9.out 2;have hfz23_3:=blk_frozen BK9.out 3;have hfz23_4:=blk_frozen BK9.out 4;have p18:0≤((ji15):Int):=of_decide_eq_true (by first|(with_reducible assumption)|assumption);have q18:(ji15)<(a0.size:Int):=of_decide_eq_true (by first|(with_reducible assumption)|assumption);have hx18:=bt_at a0 (ji15);replace p18:=eq_true p18;replace q18:=eq_true q18))
                 go_ret2
                 exact ⟨_,by first|rfl|(simp [errW_none,errW_some]<;>rfl)|(simp only [← hji15];first|rfl|(simp [errW_none,errW_some]<;>rfl))|(simp [*,errW_none,errW_some]<;>rfl),by first|exact Kd.R_nil _ _ _ _ _|exact Kd.N_nil _ _ _ _ _|exact Kd.V_nil _ _ _ _ _|exact Kd.Q_nil _ _ _ _ _|exact Kd.S_nil _ _ _ _ _,by repeat (first|(with_reducible first|exact HB.out|apply below_alloc|apply pw_below_drewN|apply below_drew1|refine below_set ?_ GE9.out)|exact HB.out)⟩
                ·rw [if_neg c20] at H
                 have c20b0:(x6_1 == (wrap64 ((a0.size:Int) - 1)))=false:=beq_eq_false_iff_ne.mpr c20
                 have c20b1:(x6_1 != (wrap64 ((a0.size:Int) - 1)))=true:=bne_iff_ne.mpr c20
                 by_cases c24:(x4_1.length:Int)=4000
                 ·rw [if_pos c24] at H
                  have c24b0:((x4_1.length:Int) == 4000)=true:=beq_iff_eq.mpr c24
                  have c24b1:((x4_1.length:Int) != 4000)=false:=bne_eq_false_iff_eq.mpr c24
                  clear c24;simp only [Option.some.injEq,Prod.mk.injEq] at H
                  obtain ⟨rfl,rfl⟩:=H
                  go_wp2_with (first|((with_reducible refine gate_callee (f:=38) rfl ?_);refine goesL_ (some 33) rfl rfl Tryz.func38 (by kernel_rfl) rfl #[.string (a0.extract (x5_1:Int).toNat (x6_1:Int).toNat)] rfl (by (try simp only [List.map_toArray,List.map_cons,List.map_nil]);first|done|rfl) ?_;(with_reducible refine (narcissusref02_read.calls kj3 (a0.extract (x5_1:Int).toNat (x6_1:Int).toNat) t3 t4 t5 t6 t7 true _ A12.out).mono ?_);rintro e w25 ⟨rfl,hb⟩;refine ⟨_,rfl,?_⟩;have n0_:=Aside0.mk (Kd.R_below (by (with_reducible repeat (first|apply Kd.R_alloc|apply Kd.R_drewN|apply Kd.R_drew));exact HO_4.out) hb);have n1_:=Aside0.mk (below_step (by repeat (first|(with_reducible first|exact HB.out|apply below_alloc|apply pw_below_drewN|apply below_drew1)|exact HB.out)) hb);clear HO_4;clear HB;have HO_4:=n0_;have HB:=n1_;clear n0_ n1_;(try clear hb);(try clear hb2);(try clear hk);(try clear hi))|((with_reducible refine gate_dst (N:=7) rfl ?_);(try (refine gate_guard (by rfl) ?_;dsimp only));refine box_event ?hg (N:=7) ?hd (cs:=#[.int .i64 0,.int .i64 0,.int .i64 0,.int .i64 0,.string (⟨#[]⟩:ByteArray)]) (t:=42) ?hr ?_;(case hd=>rfl);(case hg=>rfl);(case hr=>first|(go_simp;done)|(go_simp;rfl));intro gb9 hg w26 hbox hb;have n0_:=Aside0.mk (Kd.R_below (Kd.R_elderB (by (with_reducible repeat (first|apply Kd.R_alloc|apply Kd.R_drewN|apply Kd.R_drew));exact HO_4.out) gb9 (Nat.le_of_eq hg.symm)) hb);have n1_:=Aside0.mk (below_step (by repeat (first|(with_reducible first|exact HB.out|apply below_alloc|apply pw_below_drewN|apply below_drew1)|exact HB.out)) hb);have n2_:=Aside0.mk (hbox);have n3_:=Aside0.mk ((by rw [hg];exact (below_size (by repeat (first|(with_reducible first|exact HB.out|apply below_alloc|apply pw_below_drewN|apply below_drew1)|exact HB.out))):w.heap.size≤gb9));have n4_:=Aside0.mk ((by rw [hg];exact (below_size (by repeat (first|(with_reducible first|exact HB.out|apply below_alloc|apply pw_below_drewN|apply below_drew1)|exact HB.out))):w.heap.size≤gb9));clear HO_4;clear HB;have HO_4:=n0_;have HB:=n1_;have BK9:=n2_;have GW9:=n3_;have GE9:=n4_;clear n0_ n1_ n2_ n3_ n4_;clear hb hbox hg;have hcz27_0:w26.cell? ⟨gb9,0,none⟩=some (.int .i64 0):=(blk_cell BK9.out 0).trans rfl;have hcz27_1:w26.cell? ⟨gb9,1,none⟩=some (.int .i64 0):=(blk_cell BK9.out 1).trans rfl;have hcz27_2:w26.cell? ⟨gb9,2,none⟩=some (.int .i64 0):=(blk_cell BK9.out 2).trans rfl;have hcz27_3:w26.cell? ⟨gb9,3,none⟩=some (.int .i64 0):=(blk_cell BK9.out 3).trans rfl;have hcz27_4:w26.cell? ⟨gb9,4,none⟩=some (.string (⟨#[]⟩:ByteArray)):=(blk_cell BK9.out 4).trans rfl;have hfz27_0:=blk_frozen BK9.out 0;have hfz27_1:=blk_frozen BK9.out 1;have hfz27_2:=blk_frozen BK9.out 2;have hfz27_3:=blk_frozen BK9.out 3;have hfz27_4:=blk_frozen BK9.out 4;have p18:0≤((ji15):Int):=of_decide_eq_true (by first|(with_reducible assumption)|assumption);have q18:(ji15)<(a0.size:Int):=of_decide_eq_true (by first|(with_reducible assumption)|assumption);have hx18:=bt_at a0 (ji15);replace p18:=eq_true p18;replace q18:=eq_true q18;obtain ⟨Ao28,co28,eo28⟩:=Kd.R_slice HO_4.out;subst eo28))
                  go_ret2
                  exact ⟨_,by first|rfl|(simp [errW_none,errW_some]<;>rfl)|(simp only [← hji15];first|rfl|(simp [errW_none,errW_some]<;>rfl))|(simp [*,errW_none,errW_some]<;>rfl),by first|exact Kd.R_nil _ _ _ _ _|exact Kd.N_nil _ _ _ _ _|exact Kd.V_nil _ _ _ _ _|exact Kd.Q_nil _ _ _ _ _|exact Kd.S_nil _ _ _ _ _,by repeat (first|(with_reducible first|exact HB.out|apply below_alloc|apply pw_below_drewN|apply below_drew1|refine below_set ?_ GE9.out)|exact HB.out)⟩
                 ·rw [if_neg c24] at H
                  have c24b0:((x4_1.length:Int) == 4000)=false:=beq_eq_false_iff_ne.mpr c24
                  have c24b1:((x4_1.length:Int) != 4000)=true:=bne_iff_ne.mpr c24
                  by_cases c29:x4_1.length<2932031007402
                  ·rw [if_pos c29] at H
                   have LMc29:=Aside0.mk c29
                   clear c29;obtain ⟨y10,hy10⟩ : ∃ y_:List (S42),y_=(x4_1 ++ [(⟨t3,t4,t5,t6,t7⟩:S42)]):=⟨_,rfl⟩
                   replace H:(narcissusref02_Parse.l0 kj3 a0 y10 (wrap64 (x6_1+2)) ji15)=some (r1,r2):=by first|(rw [hy10];with_reducible exact H)|(have H2_:=(Option.bind_some _ _).symm.trans H;rw [hy10];with_reducible exact H2_)|(have H2_:=(Option.bind_some _ _).symm.trans H;with_reducible exact H2_)|with_reducible exact H|(rw [hy10];exact H)|exact H
                   have Ny10:=Aside0.mk hy10
                   clear hy10;have H':=Aside0.mk H
                   clear H;go_wp2_with (first|((with_reducible refine gate_callee (f:=38) rfl ?_);refine goesL_ (some 33) rfl rfl Tryz.func38 (by kernel_rfl) rfl #[.string (a0.extract (x5_1:Int).toNat (x6_1:Int).toNat)] rfl (by (try simp only [List.map_toArray,List.map_cons,List.map_nil]);first|done|rfl) ?_;(with_reducible refine (narcissusref02_read.calls kj3 (a0.extract (x5_1:Int).toNat (x6_1:Int).toNat) t3 t4 t5 t6 t7 true _ A12.out).mono ?_);rintro e w30 ⟨rfl,hb⟩;refine ⟨_,rfl,?_⟩;have n0_:=Aside0.mk (Kd.R_below (by (with_reducible repeat (first|apply Kd.R_alloc|apply Kd.R_drewN|apply Kd.R_drew));exact HO_4.out) hb);have n1_:=Aside0.mk (below_step (by repeat (first|(with_reducible first|exact HB.out|apply below_alloc|apply pw_below_drewN|apply below_drew1)|exact HB.out)) hb);clear HO_4;clear HB;have HO_4:=n0_;have HB:=n1_;clear n0_ n1_;(try clear hb);(try clear hb2);(try clear hk);(try clear hi))|((with_reducible refine gate_dst (N:=7) rfl ?_);(try (refine gate_guard (by rfl) ?_;dsimp only));refine box_event ?hg (N:=7) ?hd (cs:=#[.int .i64 0,.int .i64 0,.int .i64 0,.int .i64 0,.string (⟨#[]⟩:ByteArray)]) (t:=42) ?hr ?_;(case hd=>rfl);(case hg=>rfl);(case hr=>first|(go_simp;done)|(go_simp;rfl));intro gb9 hg w31 hbox hb;have n0_:=Aside0.mk (Kd.R_below (Kd.R_elderB (by (with_reducible repeat (first|apply Kd.R_alloc|apply Kd.R_drewN|apply Kd.R_drew));exact HO_4.out) gb9 (Nat.le_of_eq hg.symm)) hb);have n1_:=Aside0.mk (below_step (by repeat (first|(with_reducible first|exact HB.out|apply below_alloc|apply pw_below_drewN|apply below_drew1)|exact HB.out)) hb);have n2_:=Aside0.mk (hbox);have n3_:=Aside0.mk ((by rw [hg];exact (below_size (by repeat (first|(with_reducible first|exact HB.out|apply below_alloc|apply pw_below_drewN|apply below_drew1)|exact HB.out))):w.heap.size≤gb9));have n4_:=Aside0.mk ((by rw [hg];exact (below_size (by repeat (first|(with_reducible first|exact HB.out|apply below_alloc|apply pw_below_drewN|apply below_drew1)|exact HB.out))):w.heap.size≤gb9));clear HO_4;clear HB;have HO_4:=n0_;have HB:=n1_;have BK9:=n2_;have GW9:=n3_;have GE9:=n4_;clear n0_ n1_ n2_ n3_ n4_;clear hb hbox hg;have hcz32_0:w31.cell? ⟨gb9,0,none⟩=some (.int .i64 0):=(blk_cell BK9.out 0).trans rfl;have hcz32_1:w31.cell? ⟨gb9,1,none⟩=some (.int .i64 0):=(blk_cell BK9.out 1).trans rfl;have hcz32_2:w31.cell? ⟨gb9,2,none⟩=some (.int .i64 0):=(blk_cell BK9.out 2).trans rfl;have hcz32_3:w31.cell? ⟨gb9,3,none⟩=some (.int .i64 0):=(blk_cell BK9.out 3).trans rfl;have hcz32_4:w31.cell? ⟨gb9,4,none⟩=some (.string (⟨#[]⟩:ByteArray)):=(blk_cell BK9.out 4).trans rfl;have hfz32_0:=blk_frozen BK9.out 0;have hfz32_1:=blk_frozen BK9.out 1;have hfz32_2:=blk_frozen BK9.out 2;have hfz32_3:=blk_frozen BK9.out 3;have hfz32_4:=blk_frozen BK9.out 4;have p18:0≤((ji15):Int):=of_decide_eq_true (by first|(with_reducible assumption)|assumption);have q18:(ji15)<(a0.size:Int):=of_decide_eq_true (by first|(with_reducible assumption)|assumption);have hx18:=bt_at a0 (ji15);replace p18:=eq_true p18;replace q18:=eq_true q18;obtain ⟨Ao33,co33,eo33⟩:=Kd.R_slice HO_4.out;subst eo33)|((with_reducible refine gate_builtin (b:=.append) (xs:=#[.tmp 64,.tmp 66]) rfl ?_);(try (refine gate_guard (by rfl) ?_;dsimp only));at_builtin;refine Kd.R_append k42 (w0:=w) w.heap.size rfl (.tmp 64) (.tmp 66) 23 42 (.agg #[(.int .i64 0),(.int .i64 0),(.int .i64 0),(.int .i64 0),(.string ⟨#[]⟩)]) 48 rfl Tryz.underlying23 info42 rfl (by decide) (by omega) (.slice Ao33 x4_1.length co33) x4_1 (⟨t3,t4,t5,t6,t7⟩:S42) [.int .i64 t3,.int .i64 t4,.int .i64 t5,.int .i64 t6,.string t7] (fun k_=>k_ ≠ gb9) (fun _=>False) rfl (by first|(go_simp;done)|(go_simp;rfl)) ?aP (fun _ hk=>hk.elim) ?aF ?aO ?aB ?aS ?aL ?_;(case aP=>exact k42_mkM _ _ _ (⟨t3,t4,t5,t6,t7⟩:S42));(case aB=>exact (by repeat (first|(with_reducible first|exact HB.out|apply below_alloc|apply pw_below_drewN|apply below_drew1|refine below_set ?_ GE9.out)|exact HB.out)));(case aF=>exact (fun k_ hk=>Kd.freshB (g:=gb9) (o:=.cells #[.int .i64 t3,.int .i64 t4,.int .i64 t5,.int .i64 t6,.string t7] 42 (0,0)) (by (with_reducible repeat (first|refine blk_drewN ?_ _|refine blk_drew ?_|refine blk_alloc ?_ _));refine blk_put (cs:=#[.int .i64 t3,.int .i64 t4,.int .i64 t5,.int .i64 t6,.string (⟨#[]⟩:ByteArray)]) ?_ 4 _ rfl;(with_reducible repeat (first|refine blk_drewN ?_ _|refine blk_drew ?_|refine blk_alloc ?_ _));refine blk_put (cs:=#[.int .i64 t3,.int .i64 t4,.int .i64 t5,.int .i64 0,.string (⟨#[]⟩:ByteArray)]) ?_ 3 _ rfl;(with_reducible repeat (first|refine blk_drewN ?_ _|refine blk_drew ?_|refine blk_alloc ?_ _));refine blk_put (cs:=#[.int .i64 t3,.int .i64 t4,.int .i64 0,.int .i64 0,.string (⟨#[]⟩:ByteArray)]) ?_ 2 _ rfl;(with_reducible repeat (first|refine blk_drewN ?_ _|refine blk_drew ?_|refine blk_alloc ?_ _));refine blk_put (cs:=#[.int .i64 t3,.int .i64 0,.int .i64 0,.int .i64 0,.string (⟨#[]⟩:ByteArray)]) ?_ 1 _ rfl;(with_reducible repeat (first|refine blk_drewN ?_ _|refine blk_drew ?_|refine blk_alloc ?_ _));refine blk_put (cs:=#[.int .i64 0,.int .i64 0,.int .i64 0,.int .i64 0,.string (⟨#[]⟩:ByteArray)]) ?_ 0 _ rfl;(with_reducible repeat (first|refine blk_drewN ?_ _|refine blk_drew ?_|refine blk_alloc ?_ _));exact BK9.out) k_ hk));(case aO=>exact (by (with_reducible repeat (first|apply Kd.R_alloc|apply Kd.R_drewN|apply Kd.R_drew));exact Kd.R_mono (Kd.R_far (p:=⟨gb9,4,none⟩) (Kd.R_far (p:=⟨gb9,3,none⟩) (Kd.R_far (p:=⟨gb9,2,none⟩) (Kd.R_far (p:=⟨gb9,1,none⟩) (Kd.R_far (p:=⟨gb9,0,none⟩) (Kd.R_mono HO_4.out (fun k_ hk=>(⟨hk,hk.2⟩:_∧k_ ≠ gb9))) (fun _ hk=>hk.2) (.int .i64 t3)) (fun _ hk=>hk.2) (.int .i64 t4)) (fun _ hk=>hk.2) (.int .i64 t5)) (fun _ hk=>hk.2) (.int .i64 t6)) (fun _ hk=>hk.2) (.string t7)) (fun _ hk=>hk.1.2)));(case aS=>exact (below_size (by repeat (first|(with_reducible first|exact HB.out|apply below_alloc|apply pw_below_drewN|apply below_drew1|refine below_set ?_ GE9.out)|exact HB.out))));(case aL=>have:=LMc29.out;first|omega|(simp only [lit_size,List.size_toArray,List.length_cons,List.length_nil];omega));intro v11 w34 ho hb hg hat;rw [← Ny10.out] at ho;have n0_:=Aside0.mk (blk_grown (g:=gb9) (o:=.cells #[.int .i64 t3,.int .i64 t4,.int .i64 t5,.int .i64 t6,.string t7] 42 (0,0)) (by (with_reducible repeat (first|refine blk_drewN ?_ _|refine blk_drew ?_|refine blk_alloc ?_ _));refine blk_put (cs:=#[.int .i64 t3,.int .i64 t4,.int .i64 t5,.int .i64 t6,.string (⟨#[]⟩:ByteArray)]) ?_ 4 _ rfl;(with_reducible repeat (first|refine blk_drewN ?_ _|refine blk_drew ?_|refine blk_alloc ?_ _));refine blk_put (cs:=#[.int .i64 t3,.int .i64 t4,.int .i64 t5,.int .i64 0,.string (⟨#[]⟩:ByteArray)]) ?_ 3 _ rfl;(with_reducible repeat (first|refine blk_drewN ?_ _|refine blk_drew ?_|refine blk_alloc ?_ _));refine blk_put (cs:=#[.int .i64 t3,.int .i64 t4,.int .i64 0,.int .i64 0,.string (⟨#[]⟩:ByteArray)]) ?_ 2 _ rfl;(with_reducible repeat (first|refine blk_drewN ?_ _|refine blk_drew ?_|refine blk_alloc ?_ _));refine blk_put (cs:=#[.int .i64 t3,.int .i64 0,.int .i64 0,.int .i64 0,.string (⟨#[]⟩:ByteArray)]) ?_ 1 _ rfl;(with_reducible repeat (first|refine blk_drewN ?_ _|refine blk_drew ?_|refine blk_alloc ?_ _));refine blk_put (cs:=#[.int .i64 0,.int .i64 0,.int .i64 0,.int .i64 0,.string (⟨#[]⟩:ByteArray)]) ?_ 0 _ rfl;(with_reducible repeat (first|refine blk_drewN ?_ _|refine blk_drew ?_|refine blk_alloc ?_ _));exact BK9.out) hg (Kd.R_away HO_4.out (fun _ hk=>hk.2)));have n1_:=Aside0.mk (hb);have n2_:=Aside0.mk (ho);clear BK9;clear HB;clear HO_4;have BK9:=n0_;have HB:=n1_;have HO12:=n2_;clear n0_ n1_ n2_;clear ho hb hg hat))
                   go_roundg kj3
                   case measure=>have:=HK1.out;have:=HJ3.out;omega
                   case rel=>exact ⟨(y10),(wrap64 (x6_1+2)),(ji15),(by first|rfl|(simp;done)|(simp [*];done)),(by first|rfl|(simp;done)|(simp only [← hji15]<;>(first|rfl|simp))|(simp [*];done)),H',⟨by have:=HK1.out;have:=HJ3.out;omega⟩,⟨by (with_reducible repeat (first|apply Kd.R_alloc|apply Kd.R_drewN|apply Kd.R_drew));exact Kd.R_mono HO12.out (fun _ hk=>trivial)⟩,⟨by repeat (first|(with_reducible first|exact HB.out|apply below_alloc|apply pw_below_drewN|apply below_drew1|refine below_set ?_ GE9.out)|exact HB.out)⟩⟩
                  ·rw [if_neg c29] at H
                   exact absurd H (by simp)
               ·rw [if_neg c19] at H
                have c19b0:((bt a0 (ji15)) == 32)=false:=beq_eq_false_iff_ne.mpr c19
                have c19b1:((bt a0 (ji15)) != 32)=true:=bne_iff_ne.mpr c19
                simp only [Option.some.injEq,Prod.mk.injEq] at H
                obtain ⟨rfl,rfl⟩:=H
                go_wp2_with (first|((with_reducible refine gate_callee (f:=38) rfl ?_);refine goesL_ (some 33) rfl rfl Tryz.func38 (by kernel_rfl) rfl #[.string (a0.extract (x5_1:Int).toNat (x6_1:Int).toNat)] rfl (by (try simp only [List.map_toArray,List.map_cons,List.map_nil]);first|done|rfl) ?_;(with_reducible refine (narcissusref02_read.calls kj3 (a0.extract (x5_1:Int).toNat (x6_1:Int).toNat) t3 t4 t5 t6 t7 true _ A12.out).mono ?_);rintro e w35 ⟨rfl,hb⟩;refine ⟨_,rfl,?_⟩;have n0_:=Aside0.mk (Kd.R_below (by (with_reducible repeat (first|apply Kd.R_alloc|apply Kd.R_drewN|apply Kd.R_drew));exact HO_4.out) hb);have n1_:=Aside0.mk (below_step (by repeat (first|(with_reducible first|exact HB.out|apply below_alloc|apply pw_below_drewN|apply below_drew1)|exact HB.out)) hb);clear HO_4;clear HB;have HO_4:=n0_;have HB:=n1_;clear n0_ n1_;(try clear hb);(try clear hb2);(try clear hk);(try clear hi))|((with_reducible refine gate_dst (N:=7) rfl ?_);(try (refine gate_guard (by rfl) ?_;dsimp only));refine box_event ?hg (N:=7) ?hd (cs:=#[.int .i64 0,.int .i64 0,.int .i64 0,.int .i64 0,.string (⟨#[]⟩:ByteArray)]) (t:=42) ?hr ?_;(case hd=>rfl);(case hg=>rfl);(case hr=>first|(go_simp;done)|(go_simp;rfl));intro gb9 hg w36 hbox hb;have n0_:=Aside0.mk (Kd.R_below (Kd.R_elderB (by (with_reducible repeat (first|apply Kd.R_alloc|apply Kd.R_drewN|apply Kd.R_drew));exact HO_4.out) gb9 (Nat.le_of_eq hg.symm)) hb);have n1_:=Aside0.mk (below_step (by repeat (first|(with_reducible first|exact HB.out|apply below_alloc|apply pw_below_drewN|apply below_drew1)|exact HB.out)) hb);have n2_:=Aside0.mk (hbox);have n3_:=Aside0.mk ((by rw [hg];exact (below_size (by repeat (first|(with_reducible first|exact HB.out|apply below_alloc|apply pw_below_drewN|apply below_drew1)|exact HB.out))):w.heap.size≤gb9));have n4_:=Aside0.mk ((by rw [hg];exact (below_size (by repeat (first|(with_reducible first|exact HB.out|apply below_alloc|apply pw_below_drewN|apply below_drew1)|exact HB.out))):w.heap.size≤gb9));clear HO_4;clear HB;have HO_4:=n0_;have HB:=n1_;have BK9:=n2_;have GW9:=n3_;have GE9:=n4_;clear n0_ n1_ n2_ n3_ n4_;clear hb hbox hg;have hcz37_0:w36.cell? ⟨gb9,0,none⟩=some (.int .i64 0):=(blk_cell BK9.out 0).trans rfl;have hcz37_1:w36.cell? ⟨gb9,1,none⟩=some (.int .i64 0):=(blk_cell BK9.out 1).trans rfl;have hcz37_2:w36.cell? ⟨gb9,2,none⟩=some (.int .i64 0):=(blk_cell BK9.out 2).trans rfl;have hcz37_3:w36.cell? ⟨gb9,3,none⟩=some (.int .i64 0):=(blk_cell BK9.out 3).trans rfl;have hcz37_4:w36.cell? ⟨gb9,4,none⟩=some (.string (⟨#[]⟩:ByteArray)):=(blk_cell BK9.out 4).trans rfl;have hfz37_0:=blk_frozen BK9.out 0;have hfz37_1:=blk_frozen BK9.out 1;have hfz37_2:=blk_frozen BK9.out 2;have hfz37_3:=blk_frozen BK9.out 3;have hfz37_4:=blk_frozen BK9.out 4;have p18:0≤((ji15):Int):=of_decide_eq_true (by first|(with_reducible assumption)|assumption);have q18:(ji15)<(a0.size:Int):=of_decide_eq_true (by first|(with_reducible assumption)|assumption);have hx18:=bt_at a0 (ji15);replace p18:=eq_true p18;replace q18:=eq_true q18))
                go_ret2
                exact ⟨_,by first|rfl|(simp [errW_none,errW_some]<;>rfl)|(simp only [← hji15];first|rfl|(simp [errW_none,errW_some]<;>rfl))|(simp [*,errW_none,errW_some]<;>rfl),by first|exact Kd.R_nil _ _ _ _ _|exact Kd.N_nil _ _ _ _ _|exact Kd.V_nil _ _ _ _ _|exact Kd.Q_nil _ _ _ _ _|exact Kd.S_nil _ _ _ _ _,by repeat (first|(with_reducible first|exact HB.out|apply below_alloc|apply pw_below_drewN|apply below_drew1|refine below_set ?_ GE9.out)|exact HB.out)⟩
              ·rw [if_neg c17] at H
               exact absurd H (by simp)
             ·rw [if_neg c16] at H
              exact absurd H (by simp)
            ·rw [if_neg c14] at H
             have c14b0:decide (x6_1<(wrap64 ((a0.size:Int) - 1)))=false:=decide_eq_false c14
             clear c14;by_cases c38:x6_1=(wrap64 ((a0.size:Int) - 1))
             ·rw [if_pos c38] at H
              have c38b0:(x6_1 == (wrap64 ((a0.size:Int) - 1)))=true:=beq_iff_eq.mpr c38
              have c38b1:(x6_1 != (wrap64 ((a0.size:Int) - 1)))=false:=bne_eq_false_iff_eq.mpr c38
              clear c38;simp only [Option.some.injEq,Prod.mk.injEq] at H
              obtain ⟨rfl,rfl⟩:=H
              go_wp2_with (first|((with_reducible refine gate_callee (f:=38) rfl ?_);refine goesL_ (some 33) rfl rfl Tryz.func38 (by kernel_rfl) rfl #[.string (a0.extract (x5_1:Int).toNat (x6_1:Int).toNat)] rfl (by (try simp only [List.map_toArray,List.map_cons,List.map_nil]);first|done|rfl) ?_;(with_reducible refine (narcissusref02_read.calls kj3 (a0.extract (x5_1:Int).toNat (x6_1:Int).toNat) t3 t4 t5 t6 t7 true _ A12.out).mono ?_);rintro e w39 ⟨rfl,hb⟩;refine ⟨_,rfl,?_⟩;have n0_:=Aside0.mk (Kd.R_below (by (with_reducible repeat (first|apply Kd.R_alloc|apply Kd.R_drewN|apply Kd.R_drew));exact HO_4.out) hb);have n1_:=Aside0.mk (below_step (by repeat (first|(with_reducible first|exact HB.out|apply below_alloc|apply pw_below_drewN|apply below_drew1)|exact HB.out)) hb);clear HO_4;clear HB;have HO_4:=n0_;have HB:=n1_;clear n0_ n1_;(try clear hb);(try clear hb2);(try clear hk);(try clear hi))|((with_reducible refine gate_dst (N:=7) rfl ?_);(try (refine gate_guard (by rfl) ?_;dsimp only));refine box_event ?hg (N:=7) ?hd (cs:=#[.int .i64 0,.int .i64 0,.int .i64 0,.int .i64 0,.string (⟨#[]⟩:ByteArray)]) (t:=42) ?hr ?_;(case hd=>rfl);(case hg=>rfl);(case hr=>first|(go_simp;done)|(go_simp;rfl));intro gb9 hg w40 hbox hb;have n0_:=Aside0.mk (Kd.R_below (Kd.R_elderB (by (with_reducible repeat (first|apply Kd.R_alloc|apply Kd.R_drewN|apply Kd.R_drew));exact HO_4.out) gb9 (Nat.le_of_eq hg.symm)) hb);have n1_:=Aside0.mk (below_step (by repeat (first|(with_reducible first|exact HB.out|apply below_alloc|apply pw_below_drewN|apply below_drew1)|exact HB.out)) hb);have n2_:=Aside0.mk (hbox);have n3_:=Aside0.mk ((by rw [hg];exact (below_size (by repeat (first|(with_reducible first|exact HB.out|apply below_alloc|apply pw_below_drewN|apply below_drew1)|exact HB.out))):w.heap.size≤gb9));have n4_:=Aside0.mk ((by rw [hg];exact (below_size (by repeat (first|(with_reducible first|exact HB.out|apply below_alloc|apply pw_below_drewN|apply below_drew1)|exact HB.out))):w.heap.size≤gb9));clear HO_4;clear HB;have HO_4:=n0_;have HB:=n1_;have BK9:=n2_;have GW9:=n3_;have GE9:=n4_;clear n0_ n1_ n2_ n3_ n4_;clear hb hbox hg;have hcz41_0:w40.cell? ⟨gb9,0,none⟩=some (.int .i64 0):=(blk_cell BK9.out 0).trans rfl;have hcz41_1:w40.cell? ⟨gb9,1,none⟩=some (.int .i64 0):=(blk_cell BK9.out 1).trans rfl;have hcz41_2:w40.cell? ⟨gb9,2,none⟩=some (.int .i64 0):=(blk_cell BK9.out 2).trans rfl;have hcz41_3:w40.cell? ⟨gb9,3,none⟩=some (.int .i64 0):=(blk_cell BK9.out 3).trans rfl;have hcz41_4:w40.cell? ⟨gb9,4,none⟩=some (.string (⟨#[]⟩:ByteArray)):=(blk_cell BK9.out 4).trans rfl;have hfz41_0:=blk_frozen BK9.out 0;have hfz41_1:=blk_frozen BK9.out 1;have hfz41_2:=blk_frozen BK9.out 2;have hfz41_3:=blk_frozen BK9.out 3;have hfz41_4:=blk_frozen BK9.out 4))
              go_ret2
              exact ⟨_,by first|rfl|(simp [errW_none,errW_some]<;>rfl)|(simp [*,errW_none,errW_some]<;>rfl),by first|exact Kd.R_nil _ _ _ _ _|exact Kd.N_nil _ _ _ _ _|exact Kd.V_nil _ _ _ _ _|exact Kd.Q_nil _ _ _ _ _|exact Kd.S_nil _ _ _ _ _,by repeat (first|(with_reducible first|exact HB.out|apply below_alloc|apply pw_below_drewN|apply below_drew1|refine below_set ?_ GE9.out)|exact HB.out)⟩
             ·rw [if_neg c38] at H
              have c38b0:(x6_1 == (wrap64 ((a0.size:Int) - 1)))=false:=beq_eq_false_iff_ne.mpr c38
              have c38b1:(x6_1 != (wrap64 ((a0.size:Int) - 1)))=true:=bne_iff_ne.mpr c38
              by_cases c42:(x4_1.length:Int)=4000
              ·rw [if_pos c42] at H
               have c42b0:((x4_1.length:Int) == 4000)=true:=beq_iff_eq.mpr c42
               have c42b1:((x4_1.length:Int) != 4000)=false:=bne_eq_false_iff_eq.mpr c42
               clear c42;simp only [Option.some.injEq,Prod.mk.injEq] at H
               obtain ⟨rfl,rfl⟩:=H
               go_wp2_with (first|((with_reducible refine gate_callee (f:=38) rfl ?_);refine goesL_ (some 33) rfl rfl Tryz.func38 (by kernel_rfl) rfl #[.string (a0.extract (x5_1:Int).toNat (x6_1:Int).toNat)] rfl (by (try simp only [List.map_toArray,List.map_cons,List.map_nil]);first|done|rfl) ?_;(with_reducible refine (narcissusref02_read.calls kj3 (a0.extract (x5_1:Int).toNat (x6_1:Int).toNat) t3 t4 t5 t6 t7 true _ A12.out).mono ?_);rintro e w43 ⟨rfl,hb⟩;refine ⟨_,rfl,?_⟩;have n0_:=Aside0.mk (Kd.R_below (by (with_reducible repeat (first|apply Kd.R_alloc|apply Kd.R_drewN|apply Kd.R_drew));exact HO_4.out) hb);have n1_:=Aside0.mk (below_step (by repeat (first|(with_reducible first|exact HB.out|apply below_alloc|apply pw_below_drewN|apply below_drew1)|exact HB.out)) hb);clear HO_4;clear HB;have HO_4:=n0_;have HB:=n1_;clear n0_ n1_;(try clear hb);(try clear hb2);(try clear hk);(try clear hi))|((with_reducible refine gate_dst (N:=7) rfl ?_);(try (refine gate_guard (by rfl) ?_;dsimp only));refine box_event ?hg (N:=7) ?hd (cs:=#[.int .i64 0,.int .i64 0,.int .i64 0,.int .i64 0,.string (⟨#[]⟩:ByteArray)]) (t:=42) ?hr ?_;(case hd=>rfl);(case hg=>rfl);(case hr=>first|(go_simp;done)|(go_simp;rfl));intro gb9 hg w44 hbox hb;have n0_:=Aside0.mk (Kd.R_below (Kd.R_elderB (by (with_reducible repeat (first|apply Kd.R_alloc|apply Kd.R_drewN|apply Kd.R_drew));exact HO_4.out) gb9 (Nat.le_of_eq hg.symm)) hb);have n1_:=Aside0.mk (below_step (by repeat (first|(with_reducible first|exact HB.out|apply below_alloc|apply pw_below_drewN|apply below_drew1)|exact HB.out)) hb);have n2_:=Aside0.mk (hbox);have n3_:=Aside0.mk ((by rw [hg];exact (below_size (by repeat (first|(with_reducible first|exact HB.out|apply below_alloc|apply pw_below_drewN|apply below_drew1)|exact HB.out))):w.heap.size≤gb9));have n4_:=Aside0.mk ((by rw [hg];exact (below_size (by repeat (first|(with_reducible first|exact HB.out|apply below_alloc|apply pw_below_drewN|apply below_drew1)|exact HB.out))):w.heap.size≤gb9));clear HO_4;clear HB;have HO_4:=n0_;have HB:=n1_;have BK9:=n2_;have GW9:=n3_;have GE9:=n4_;clear n0_ n1_ n2_ n3_ n4_;clear hb hbox hg;have hcz45_0:w44.cell? ⟨gb9,0,none⟩=some (.int .i64 0):=(blk_cell BK9.out 0).trans rfl;have hcz45_1:w44.cell? ⟨gb9,1,none⟩=some (.int .i64 0):=(blk_cell BK9.out 1).trans rfl;have hcz45_2:w44.cell? ⟨gb9,2,none⟩=some (.int .i64 0):=(blk_cell BK9.out 2).trans rfl;have hcz45_3:w44.cell? ⟨gb9,3,none⟩=some (.int .i64 0):=(blk_cell BK9.out 3).trans rfl;have hcz45_4:w44.cell? ⟨gb9,4,none⟩=some (.string (⟨#[]⟩:ByteArray)):=(blk_cell BK9.out 4).trans rfl;have hfz45_0:=blk_frozen BK9.out 0;have hfz45_1:=blk_frozen BK9.out 1;have hfz45_2:=blk_frozen BK9.out 2;have hfz45_3:=blk_frozen BK9.out 3;have hfz45_4:=blk_frozen BK9.out 4;obtain ⟨Ao46,co46,eo46⟩:=Kd.R_slice HO_4.out;subst eo46))
               go_ret2
               exact ⟨_,by first|rfl|(simp [errW_none,errW_some]<;>rfl)|(simp [*,errW_none,errW_some]<;>rfl),by first|exact Kd.R_nil _ _ _ _ _|exact Kd.N_nil _ _ _ _ _|exact Kd.V_nil _ _ _ _ _|exact Kd.Q_nil _ _ _ _ _|exact Kd.S_nil _ _ _ _ _,by repeat (first|(with_reducible first|exact HB.out|apply below_alloc|apply pw_below_drewN|apply below_drew1|refine below_set ?_ GE9.out)|exact HB.out)⟩
              ·rw [if_neg c42] at H
               have c42b0:((x4_1.length:Int) == 4000)=false:=beq_eq_false_iff_ne.mpr c42
               have c42b1:((x4_1.length:Int) != 4000)=true:=bne_iff_ne.mpr c42
               by_cases c47:x4_1.length<2932031007402
               ·rw [if_pos c47] at H
                have LMc47:=Aside0.mk c47
                clear c47;obtain ⟨y13,hy13⟩ : ∃ y_:List (S42),y_=(x4_1 ++ [(⟨t3,t4,t5,t6,t7⟩:S42)]):=⟨_,rfl⟩
                replace H:(narcissusref02_Parse.l0 kj3 a0 y13 (wrap64 (x6_1+2)) (wrap64 (x6_1+1)))=some (r1,r2):=by first|(rw [hy13];with_reducible exact H)|(have H2_:=(Option.bind_some _ _).symm.trans H;rw [hy13];with_reducible exact H2_)|(have H2_:=(Option.bind_some _ _).symm.trans H;with_reducible exact H2_)|with_reducible exact H|(rw [hy13];exact H)|exact H
                have Ny13:=Aside0.mk hy13
                clear hy13;have H':=Aside0.mk H
                clear H;go_wp2_with (first|((with_reducible refine gate_callee (f:=38) rfl ?_);refine goesL_ (some 33) rfl rfl Tryz.func38 (by kernel_rfl) rfl #[.string (a0.extract (x5_1:Int).toNat (x6_1:Int).toNat)] rfl (by (try simp only [List.map_toArray,List.map_cons,List.map_nil]);first|done|rfl) ?_;(with_reducible refine (narcissusref02_read.calls kj3 (a0.extract (x5_1:Int).toNat (x6_1:Int).toNat) t3 t4 t5 t6 t7 true _ A12.out).mono ?_);rintro e w48 ⟨rfl,hb⟩;refine ⟨_,rfl,?_⟩;have n0_:=Aside0.mk (Kd.R_below (by (with_reducible repeat (first|apply Kd.R_alloc|apply Kd.R_drewN|apply Kd.R_drew));exact HO_4.out) hb);have n1_:=Aside0.mk (below_step (by repeat (first|(with_reducible first|exact HB.out|apply below_alloc|apply pw_below_drewN|apply below_drew1)|exact HB.out)) hb);clear HO_4;clear HB;have HO_4:=n0_;have HB:=n1_;clear n0_ n1_;(try clear hb);(try clear hb2);(try clear hk);(try clear hi))|((with_reducible refine gate_dst (N:=7) rfl ?_);(try (refine gate_guard (by rfl) ?_;dsimp only));refine box_event ?hg (N:=7) ?hd (cs:=#[.int .i64 0,.int .i64 0,.int .i64 0,.int .i64 0,.string (⟨#[]⟩:ByteArray)]) (t:=42) ?hr ?_;(case hd=>rfl);(case hg=>rfl);(case hr=>first|(go_simp;done)|(go_simp;rfl));intro gb9 hg w49 hbox hb;have n0_:=Aside0.mk (Kd.R_below (Kd.R_elderB (by (with_reducible repeat (first|apply Kd.R_alloc|apply Kd.R_drewN|apply Kd.R_drew));exact HO_4.out) gb9 (Nat.le_of_eq hg.symm)) hb);have n1_:=Aside0.mk (below_step (by repeat (first|(with_reducible first|exact HB.out|apply below_alloc|apply pw_below_drewN|apply below_drew1)|exact HB.out)) hb);have n2_:=Aside0.mk (hbox);have n3_:=Aside0.mk ((by rw [hg];exact (below_size (by repeat (first|(with_reducible first|exact HB.out|apply below_alloc|apply pw_below_drewN|apply below_drew1)|exact HB.out))):w.heap.size≤gb9));have n4_:=Aside0.mk ((by rw [hg];exact (below_size (by repeat (first|(with_reducible first|exact HB.out|apply below_alloc|apply pw_below_drewN|apply below_drew1)|exact HB.out))):w.heap.size≤gb9));clear HO_4;clear HB;have HO_4:=n0_;have HB:=n1_;have BK9:=n2_;have GW9:=n3_;have GE9:=n4_;clear n0_ n1_ n2_ n3_ n4_;clear hb hbox hg;have hcz50_0:w49.cell? ⟨gb9,0,none⟩=some (.int .i64 0):=(blk_cell BK9.out 0).trans rfl;have hcz50_1:w49.cell? ⟨gb9,1,none⟩=some (.int .i64 0):=(blk_cell BK9.out 1).trans rfl;have hcz50_2:w49.cell? ⟨gb9,2,none⟩=some (.int .i64 0):=(blk_cell BK9.out 2).trans rfl;have hcz50_3:w49.cell? ⟨gb9,3,none⟩=some (.int .i64 0):=(blk_cell BK9.out 3).trans rfl;have hcz50_4:w49.cell? ⟨gb9,4,none⟩=some (.string (⟨#[]⟩:ByteArray)):=(blk_cell BK9.out 4).trans rfl;have hfz50_0:=blk_frozen BK9.out 0;have hfz50_1:=blk_frozen BK9.out 1;have hfz50_2:=blk_frozen BK9.out 2;have hfz50_3:=blk_frozen BK9.out 3;have hfz50_4:=blk_frozen BK9.out 4;obtain ⟨Ao51,co51,eo51⟩:=Kd.R_slice HO_4.out;subst eo51)|((with_reducible refine gate_builtin (b:=.append) (xs:=#[.tmp 64,.tmp 66]) rfl ?_);(try (refine gate_guard (by rfl) ?_;dsimp only));at_builtin;refine Kd.R_append k42 (w0:=w) w.heap.size rfl (.tmp 64) (.tmp 66) 23 42 (.agg #[(.int .i64 0),(.int .i64 0),(.int .i64 0),(.int .i64 0),(.string ⟨#[]⟩)]) 48 rfl Tryz.underlying23 info42 rfl (by decide) (by omega) (.slice Ao51 x4_1.length co51) x4_1 (⟨t3,t4,t5,t6,t7⟩:S42) [.int .i64 t3,.int .i64 t4,.int .i64 t5,.int .i64 t6,.string t7] (fun k_=>k_ ≠ gb9) (fun _=>False) rfl (by first|(go_simp;done)|(go_simp;rfl)) ?aP (fun _ hk=>hk.elim) ?aF ?aO ?aB ?aS ?aL ?_;(case aP=>exact k42_mkM _ _ _ (⟨t3,t4,t5,t6,t7⟩:S42));(case aB=>exact (by repeat (first|(with_reducible first|exact HB.out|apply below_alloc|apply pw_below_drewN|apply below_drew1|refine below_set ?_ GE9.out)|exact HB.out)));(case aF=>exact (fun k_ hk=>Kd.freshB (g:=gb9) (o:=.cells #[.int .i64 t3,.int .i64 t4,.int .i64 t5,.int .i64 t6,.string t7] 42 (0,0)) (by (with_reducible repeat (first|refine blk_drewN ?_ _|refine blk_drew ?_|refine blk_alloc ?_ _));refine blk_put (cs:=#[.int .i64 t3,.int .i64 t4,.int .i64 t5,.int .i64 t6,.string (⟨#[]⟩:ByteArray)]) ?_ 4 _ rfl;(with_reducible repeat (first|refine blk_drewN ?_ _|refine blk_drew ?_|refine blk_alloc ?_ _));refine blk_put (cs:=#[.int .i64 t3,.int .i64 t4,.int .i64 t5,.int .i64 0,.string (⟨#[]⟩:ByteArray)]) ?_ 3 _ rfl;(with_reducible repeat (first|refine blk_drewN ?_ _|refine blk_drew ?_|refine blk_alloc ?_ _));refine blk_put (cs:=#[.int .i64 t3,.int .i64 t4,.int .i64 0,.int .i64 0,.string (⟨#[]⟩:ByteArray)]) ?_ 2 _ rfl;(with_reducible repeat (first|refine blk_drewN ?_ _|refine blk_drew ?_|refine blk_alloc ?_ _));refine blk_put (cs:=#[.int .i64 t3,.int .i64 0,.int .i64 0,.int .i64 0,.string (⟨#[]⟩:ByteArray)]) ?_ 1 _ rfl;(with_reducible repeat (first|refine blk_drewN ?_ _|refine blk_drew ?_|refine blk_alloc ?_ _));refine blk_put (cs:=#[.int .i64 0,.int .i64 0,.int .i64 0,.int .i64 0,.string (⟨#[]⟩:ByteArray)]) ?_ 0 _ rfl;(with_reducible repeat (first|refine blk_drewN ?_ _|refine blk_drew ?_|refine blk_alloc ?_ _));exact BK9.out) k_ hk));(case aO=>exact (by (with_reducible repeat (first|apply Kd.R_alloc|apply Kd.R_drewN|apply Kd.R_drew));exact Kd.R_mono (Kd.R_far (p:=⟨gb9,4,none⟩) (Kd.R_far (p:=⟨gb9,3,none⟩) (Kd.R_far (p:=⟨gb9,2,none⟩) (Kd.R_far (p:=⟨gb9,1,none⟩) (Kd.R_far (p:=⟨gb9,0,none⟩) (Kd.R_mono HO_4.out (fun k_ hk=>(⟨hk,hk.2⟩:_∧k_ ≠ gb9))) (fun _ hk=>hk.2) (.int .i64 t3)) (fun _ hk=>hk.2) (.int .i64 t4)) (fun _ hk=>hk.2) (.int .i64 t5)) (fun _ hk=>hk.2) (.int .i64 t6)) (fun _ hk=>hk.2) (.string t7)) (fun _ hk=>hk.1.2)));(case aS=>exact (below_size (by repeat (first|(with_reducible first|exact HB.out|apply below_alloc|apply pw_below_drewN|apply below_drew1|refine below_set ?_ GE9.out)|exact HB.out))));(case aL=>have:=LMc47.out;first|omega|(simp only [lit_size,List.size_toArray,List.length_cons,List.length_nil];omega));intro v14 w52 ho hb hg hat;rw [← Ny13.out] at ho;have n0_:=Aside0.mk (blk_grown (g:=gb9) (o:=.cells #[.int .i64 t3,.int .i64 t4,.int .i64 t5,.int .i64 t6,.string t7] 42 (0,0)) (by (with_reducible repeat (first|refine blk_drewN ?_ _|refine blk_drew ?_|refine blk_alloc ?_ _));refine blk_put (cs:=#[.int .i64 t3,.int .i64 t4,.int .i64 t5,.int .i64 t6,.string (⟨#[]⟩:ByteArray)]) ?_ 4 _ rfl;(with_reducible repeat (first|refine blk_drewN ?_ _|refine blk_drew ?_|refine blk_alloc ?_ _));refine blk_put (cs:=#[.int .i64 t3,.int .i64 t4,.int .i64 t5,.int .i64 0,.string (⟨#[]⟩:ByteArray)]) ?_ 3 _ rfl;(with_reducible repeat (first|refine blk_drewN ?_ _|refine blk_drew ?_|refine blk_alloc ?_ _));refine blk_put (cs:=#[.int .i64 t3,.int .i64 t4,.int .i64 0,.int .i64 0,.string (⟨#[]⟩:ByteArray)]) ?_ 2 _ rfl;(with_reducible repeat (first|refine blk_drewN ?_ _|refine blk_drew ?_|refine blk_alloc ?_ _));refine blk_put (cs:=#[.int .i64 t3,.int .i64 0,.int .i64 0,.int .i64 0,.string (⟨#[]⟩:ByteArray)]) ?_ 1 _ rfl;(with_reducible repeat (first|refine blk_drewN ?_ _|refine blk_drew ?_|refine blk_alloc ?_ _));refine blk_put (cs:=#[.int .i64 0,.int .i64 0,.int .i64 0,.int .i64 0,.string (⟨#[]⟩:ByteArray)]) ?_ 0 _ rfl;(with_reducible repeat (first|refine blk_drewN ?_ _|refine blk_drew ?_|refine blk_alloc ?_ _));exact BK9.out) hg (Kd.R_away HO_4.out (fun _ hk=>hk.2)));have n1_:=Aside0.mk (hb);have n2_:=Aside0.mk (ho);clear BK9;clear HB;clear HO_4;have BK9:=n0_;have HB:=n1_;have HO15:=n2_;clear n0_ n1_ n2_;clear ho hb hg hat))
                go_roundg kj3
                case measure=>have:=HK1.out;have:=HJ3.out;omega
                case rel=>exact ⟨(y13),(wrap64 (x6_1+2)),(wrap64 (x6_1+1)),(by first|rfl|(simp;done)|(simp [*];done)),(by first|rfl|(simp;done)|(simp [*];done)),H',⟨by have:=HK1.out;have:=HJ3.out;omega⟩,⟨by (with_reducible repeat (first|apply Kd.R_alloc|apply Kd.R_drewN|apply Kd.R_drew));exact Kd.R_mono HO15.out (fun _ hk=>trivial)⟩,⟨by repeat (first|(with_reducible first|exact HB.out|apply below_alloc|apply pw_below_drewN|apply below_drew1|refine below_set ?_ GE9.out)|exact HB.out)⟩⟩
               ·rw [if_neg c47] at H
                exact absurd H (by simp)
           ·replace c13:=Bool.eq_false_iff.mpr c13
            subst c13;have H1:(some (([]:List (S42)),false))=some (r1,r2):=by rw [if_neg (show ¬ (false=true) by decide)] at H;exact H
            clear H;have H:=H1
            clear H1;simp only [Option.some.injEq,Prod.mk.injEq] at H
            obtain ⟨rfl,rfl⟩:=H
            go_wp2_with (first|((with_reducible refine gate_callee (f:=38) rfl ?_);refine goesL_ (some 33) rfl rfl Tryz.func38 (by kernel_rfl) rfl #[.string (a0.extract (x5_1:Int).toNat (x6_1:Int).toNat)] rfl (by (try simp only [List.map_toArray,List.map_cons,List.map_nil]);first|done|rfl) ?_;(with_reducible refine (narcissusref02_read.calls kj3 (a0.extract (x5_1:Int).toNat (x6_1:Int).toNat) t3 t4 t5 t6 t7 false _ A12.out).mono ?_);rintro e w53 ⟨rfl,hb⟩;refine ⟨_,rfl,?_⟩;have n0_:=Aside0.mk (Kd.R_below (by (with_reducible repeat (first|apply Kd.R_alloc|apply Kd.R_drewN|apply Kd.R_drew));exact HO_4.out) hb);have n1_:=Aside0.mk (below_step (by repeat (first|(with_reducible first|exact HB.out|apply below_alloc|apply pw_below_drewN|apply below_drew1)|exact HB.out)) hb);clear HO_4;clear HB;have HO_4:=n0_;have HB:=n1_;clear n0_ n1_;(try clear hb);(try clear hb2);(try clear hk);(try clear hi))|((with_reducible refine gate_dst (N:=7) rfl ?_);(try (refine gate_guard (by rfl) ?_;dsimp only));refine box_event ?hg (N:=7) ?hd (cs:=#[.int .i64 0,.int .i64 0,.int .i64 0,.int .i64 0,.string (⟨#[]⟩:ByteArray)]) (t:=42) ?hr ?_;(case hd=>rfl);(case hg=>rfl);(case hr=>first|(go_simp;done)|(go_simp;rfl));intro gb9 hg w54 hbox hb;have n0_:=Aside0.mk (Kd.R_below (Kd.R_elderB (by (with_reducible repeat (first|apply Kd.R_alloc|apply Kd.R_drewN|apply Kd.R_drew));exact HO_4.out) gb9 (Nat.le_of_eq hg.symm)) hb);have n1_:=Aside0.mk (below_step (by repeat (first|(with_reducible first|exact HB.out|apply below_alloc|apply pw_below_drewN|apply below_drew1)|exact HB.out)) hb);have n2_:=Aside0.mk (hbox);have n3_:=Aside0.mk ((by rw [hg];exact (below_size (by repeat (first|(with_reducible first|exact HB.out|apply below_alloc|apply pw_below_drewN|apply below_drew1)|exact HB.out))):w.heap.size≤gb9));have n4_:=Aside0.mk ((by rw [hg];exact (below_size (by repeat (first|(with_reducible first|exact HB.out|apply below_alloc|apply pw_below_drewN|apply below_drew1)|exact HB.out))):w.heap.size≤gb9));clear HO_4;clear HB;have HO_4:=n0_;have HB:=n1_;have BK9:=n2_;have GW9:=n3_;have GE9:=n4_;clear n0_ n1_ n2_ n3_ n4_;clear hb hbox hg;have hcz55_0:w54.cell? ⟨gb9,0,none⟩=some (.int .i64 0):=(blk_cell BK9.out 0).trans rfl;have hcz55_1:w54.cell? ⟨gb9,1,none⟩=some (.int .i64 0):=(blk_cell BK9.out 1).trans rfl;have hcz55_2:w54.cell? ⟨gb9,2,none⟩=some (.int .i64 0):=(blk_cell BK9.out 2).trans rfl;have hcz55_3:w54.cell? ⟨gb9,3,none⟩=some (.int .i64 0):=(blk_cell BK9.out 3).trans rfl;have hcz55_4:w54.cell? ⟨gb9,4,none⟩=some (.string (⟨#[]⟩:ByteArray)):=(blk_cell BK9.out 4).trans rfl;have hfz55_0:=blk_frozen BK9.out 0;have hfz55_1:=blk_frozen BK9.out 1;have hfz55_2:=blk_frozen BK9.out 2;have hfz55_3:=blk_frozen BK9.out 3;have hfz55_4:=blk_frozen BK9.out 4))
            go_ret2
            exact ⟨_,by first|rfl|(simp [errW_none,errW_some]<;>rfl)|(simp [*,errW_none,errW_some]<;>rfl),by first|exact Kd.R_nil _ _ _ _ _|exact Kd.N_nil _ _ _ _ _|exact Kd.V_nil _ _ _ _ _|exact Kd.Q_nil _ _ _ _ _|exact Kd.S_nil _ _ _ _ _,by repeat (first|(with_reducible first|exact HB.out|apply below_alloc|apply pw_below_drewN|apply below_drew1|refine below_set ?_ GE9.out)|exact HB.out)⟩
          ·rw [if_neg c11] at H
           exact absurd H (by simp)
         ·rw [if_neg c10] at H
          exact absurd H (by simp)
        ·rw [if_neg c9] at H
         exact absurd H (by simp)
    ·rw [if_neg c3] at H
     have c3b0:decide (x6_1≤(a0.size:Int))=false:=decide_eq_false c3
     clear c3;replace H:=Option.bind_eq_some_iff.mp H
     obtain ⟨t1,A560,H⟩:=H
     replace H:(if t1=true then ((narcissusref02_Text.f k1 x4_1).bind fun t2=>(some (x4_1,(t2.toList == a0.toList)))) else (some (x4_1,false)))=some (r1,r2):=H
     have A56:=Aside0.mk A560
     clear A560;by_cases c57:t1=true
     ·subst c57
      have H1:((narcissusref02_Text.f k1 x4_1).bind fun t2=>(some (x4_1,(t2.toList == a0.toList))))=some (r1,r2):=by rw [if_pos rfl] at H;exact H
      clear H;have H:=H1
      clear H1;replace H:=Option.bind_eq_some_iff.mp H
      obtain ⟨t2,A580,H⟩:=H
      replace H:(some (x4_1,(t2.toList == a0.toList)))=some (r1,r2):=H
      have A58:=Aside0.mk A580
      clear A580;simp only [Option.some.injEq,Prod.mk.injEq] at H
      obtain ⟨rfl,rfl⟩:=H
      obtain ⟨Ao59,co59,eo59⟩:=Kd.R_slice HO_4.out
      subst eo59;go_wp2_with (first|((with_reducible refine gate_callee (f:=15) rfl ?_);refine goesL_ (some 72) rfl rfl Tryz.func15 (by kernel_rfl) rfl #[.slice Ao59 x4_1.length co59] rfl (by (try simp only [List.map_toArray,List.map_cons,List.map_nil]);first|done|rfl|(simp only [List.length_drop,List.length_take];rfl)) ?_;(with_reducible refine (narcissusref02_Valid.calls k1 _ _ x4_1 true _ ?side1 ?side2 A56.out).mono ?_);(case side1=>repeat (first|exact (Kd.R_reads' HO_4.out).2.2|(with_reducible refine Kd.C_alloc ?_ _)|(with_reducible refine Kd.C_drewN ?_ _)|(with_reducible refine Kd.C_drew ?_)));(case side2=>exact (Kd.R_reads' HO_4.out).2.1);rintro e w60 ⟨rfl,hb⟩;refine ⟨_,rfl,?_⟩;have n0_:=Aside0.mk (Kd.R_below (by (with_reducible repeat (first|apply Kd.R_alloc|apply Kd.R_drewN|apply Kd.R_drew));exact HO_4.out) hb);have n1_:=Aside0.mk (below_step (by repeat (first|(with_reducible first|exact HB.out|apply below_alloc|apply pw_below_drewN|apply below_drew1)|exact HB.out)) hb);clear HO_4;clear HB;have HO_4:=n0_;have HB:=n1_;clear n0_ n1_;(try clear hb);(try clear hb2);(try clear hk);(try clear hi))|(go_at_call 25;(with_reducible refine (narcissusref02_Text.calls k1 _ _ x4_1 t2 _ ?side1 ?side2 A58.out).mono ?_);(case side1=>repeat (first|exact (Kd.R_reads' HO_4.out).2.2|(with_reducible refine Kd.C_alloc ?_ _)|(with_reducible refine Kd.C_drewN ?_ _)|(with_reducible refine Kd.C_drew ?_)));(case side2=>exact (Kd.R_reads' HO_4.out).2.1);rintro e w61 ⟨rfl,hb⟩;have n0_:=Aside0.mk (Kd.R_below (by (with_reducible repeat (first|apply Kd.R_alloc|apply Kd.R_drewN|apply Kd.R_drew));exact HO_4.out) hb);have n1_:=Aside0.mk (below_step (by repeat (first|(with_reducible first|exact HB.out|apply below_alloc|apply pw_below_drewN|apply below_drew1)|exact HB.out)) hb);clear HO_4;clear HB;have HO_4:=n0_;have HB:=n1_;clear n0_ n1_;(try clear hb);(try clear hb2);(try clear hk);(try clear hi)))
      go_ret2
      exact ⟨_,by first|rfl|(simp [errW_none,errW_some]<;>rfl)|(simp [*,errW_none,errW_some]<;>rfl),by (with_reducible repeat (first|apply Kd.R_alloc|apply Kd.R_drewN|apply Kd.R_drew));exact HO_4.out,by repeat (first|(with_reducible first|exact HB.out|apply below_alloc|apply pw_below_drewN|apply below_drew1)|exact HB.out)⟩
     ·replace c57:=Bool.eq_false_iff.mpr c57
      subst c57;have H1:(some (x4_1,false))=some (r1,r2):=by rw [if_neg (show ¬ (false=true) by decide)] at H;exact H
      clear H;have H:=H1
      clear H1;simp only [Option.some.injEq,Prod.mk.injEq] at H
      obtain ⟨rfl,rfl⟩:=H
      obtain ⟨Ao62,co62,eo62⟩:=Kd.R_slice HO_4.out
      subst eo62;go_wp2_with (first|((with_reducible refine gate_callee (f:=15) rfl ?_);refine goesL_ (some 72) rfl rfl Tryz.func15 (by kernel_rfl) rfl #[.slice Ao62 x4_1.length co62] rfl (by (try simp only [List.map_toArray,List.map_cons,List.map_nil]);first|done|rfl|(simp only [List.length_drop,List.length_take];rfl)) ?_;(with_reducible refine (narcissusref02_Valid.calls k1 _ _ x4_1 false _ ?side1 ?side2 A56.out).mono ?_);(case side1=>repeat (first|exact (Kd.R_reads' HO_4.out).2.2|(with_reducible refine Kd.C_alloc ?_ _)|(with_reducible refine Kd.C_drewN ?_ _)|(with_reducible refine Kd.C_drew ?_)));(case side2=>exact (Kd.R_reads' HO_4.out).2.1);rintro e w63 ⟨rfl,hb⟩;refine ⟨_,rfl,?_⟩;have n0_:=Aside0.mk (Kd.R_below (by (with_reducible repeat (first|apply Kd.R_alloc|apply Kd.R_drewN|apply Kd.R_drew));exact HO_4.out) hb);have n1_:=Aside0.mk (below_step (by repeat (first|(with_reducible first|exact HB.out|apply below_alloc|apply pw_below_drewN|apply below_drew1)|exact HB.out)) hb);clear HO_4;clear HB;have HO_4:=n0_;have HB:=n1_;clear n0_ n1_;(try clear hb);(try clear hb2);(try clear hk);(try clear hi)))
      go_ret2
      exact ⟨_,by first|rfl|(simp [errW_none,errW_some]<;>rfl)|(simp [*,errW_none,errW_some]<;>rfl),by (with_reducible repeat (first|apply Kd.R_alloc|apply Kd.R_drewN|apply Kd.R_drew));exact HO_4.out,by repeat (first|(with_reducible first|exact HB.out|apply below_alloc|apply pw_below_drewN|apply below_drew1)|exact HB.out)⟩
end
end Go.Proofs.YtfckjfoalpkpjaaGreatDoor.C
section
namespace Go.Proofs.YtfckjfoalpkpjaaGreatDoor.Plain
open Go.Proofs.YtfckjfoalpkpjaaGreatDoor.C
open Go.RowKit Go.Proofs.YtfckjfoalpkpjaaGreatDoorW.PrintWords Go.Proofs.YtfckjfoalpkpjaaGreatDoorW.PrintLast Go.Proofs.YtfckjfoalpkpjaaGreatDoorW.PrintMore
theorem byte32 (c:UInt8):((c.toNat:Int)=32)↔c=32:=byte_eq c 32 (by decide)
theorem byte59 (c:UInt8):((c.toNat:Int)=59)↔c=59:=byte_eq c 59 (by decide)
theorem byte45 (c:UInt8):((c.toNat:Int)=45)↔c=45:=byte_eq c 45 (by decide)
theorem refSplit_l (s:ByteArray) (hz:s.size≤4000000) (d:Nat) : ∀ (k i frm:Nat) (out:List ByteArray),s.size - i=d→i≤s.size→frm≤i→d+3<k→out.length+d≤5000000→(32:UInt8) ∉ ((bl s).drop frm).take (i - frm) →
    ∃ l,narcissusref02_split.l0 k s out (frm:Int) (i:Int)=some (out ++ l)∧l ≠ []∧joinS [32] (l.map bl)=(bl s).drop frm∧(∀ t ∈ l,(32:UInt8) ∉ bl t∧t.size≤4000000):=by
  induction d with
  | zero =>
    intro k i frm out hd hi hf hk ho hno
    obtain ⟨k,rfl⟩ : ∃ m,k=m+2:=⟨k - 2,by omega⟩
    have hie:i=s.size:=by omega
    have w1:wrap64 ((i:Int)+1)=((i+1:Nat):Int):=wrap_small (by omega) (by omega)
    have hx:bl (s.extract frm i)=(bl s).drop frm:=by
      rw [bl_extract,hie,← bl_len,List.take_length]
    refine ⟨[s.extract frm i],?_,by simp,by simp [joinS,hx],?_⟩
    · rw [narcissusref02_split.l0,if_pos (by omega),if_pos (by omega),if_pos (by omega),if_pos (by omega),if_pos (by omega),w1,narcissusref02_split.l0,if_neg (by omega),Int.toNat_natCast,Int.toNat_natCast]
    · intro t ht
      rw [List.mem_singleton.1 ht]
      refine ⟨?_,by rw [ByteArray.size_extract];omega⟩
      rw [hx]
      have:((bl s).drop frm).take (i - frm)=(bl s).drop frm:=List.take_of_length_le (by rw [List.length_drop,bl_len];omega)
      rw [this] at hno
      exact hno
  | succ d ih =>
    intro k i frm out hd hi hf hk ho hno
    obtain ⟨k,rfl⟩ : ∃ m,k=m+1:=⟨k - 1,by omega⟩
    have hlt:i<(bl s).length:=by rw [bl_len];omega
    have w1:wrap64 ((i:Int)+1)=((i+1:Nat):Int):=wrap_small (by omega) (by omega)
    have hb:=bt_at s i hlt
    rw [narcissusref02_split.l0,if_pos (by omega),if_neg (by omega),if_pos (by omega),if_pos (by omega),hb,w1]
    have hsplit:(bl s).drop frm=((bl s).drop frm).take (i - frm) ++ ((bl s)[i] :: (bl s).drop (i+1)):=by
      have h1:=(List.take_append_drop (i - frm) ((bl s).drop frm)).symm
      rw [List.drop_drop,show frm+(i - frm)=i from by omega,List.drop_eq_getElem_cons hlt] at h1
      exact h1
    by_cases h32:(bl s)[i]=32
    · have e32:(((bl s)[i]).toNat:Int)=32:=by rw [h32];rfl
      have hx:bl (s.extract frm i)=((bl s).drop frm).take (i - frm):=by rw [bl_extract,List.drop_take]
      rw [if_pos e32,if_pos (by omega),if_pos (by omega),if_pos (by omega),Int.toNat_natCast,Int.toNat_natCast]
      obtain ⟨l,e,hne,hj,hl⟩:=ih k (i+1) (i+1) (out ++ [s.extract frm i]) (by omega) (by omega) (Nat.le_refl _) (by omega) (by rw [List.length_append,List.length_singleton];omega) (by simp)
      refine ⟨s.extract frm i :: l,by rw [e];simp,by simp,?_,?_⟩
      · rw [List.map_cons,joinS_cons _ _ _ (by simpa using hne),hj,hx]
        conv=>rhs;rw [hsplit,h32]
        simp
      · intro t ht
        rcases List.mem_cons.1 ht with rfl|ht
        · exact ⟨by rw [hx];exact hno,by rw [ByteArray.size_extract];omega⟩
        · exact hl t ht
    · have e32 : ¬ (((bl s)[i]).toNat:Int)=32:=fun h=>h32 ((byte32 _).1 h)
      rw [if_neg e32]
      refine ih k (i+1) frm out (by omega) (by omega) (by omega) (by omega) (by omega) ?_
      have ht:((bl s).drop frm).take (i+1 - frm)=((bl s).drop frm).take (i - frm) ++ [(bl s)[i]]:=by
        have hl2:i - frm<((bl s).drop frm).length:=by rw [List.length_drop];omega
        rw [show i+1 - frm=(i - frm)+1 from by omega,← List.take_append_getElem hl2]
        congr 2
        rw [List.getElem_drop]
        congr 1
        omega
      rw [ht]
      intro hm
      rcases List.mem_append.1 hm with hm|hm
      · exact hno hm
      · exact h32 (List.mem_singleton.1 hm).symm
theorem refSplit_tells (s:ByteArray) (hz:s.size≤4000000) (k:Nat) (hk:4000010≤k) : ∃ l,narcissusref02_split.f k s=some l∧l ≠ []∧joinS [32] (l.map bl)=bl s∧(∀ t ∈ l,(32:UInt8) ∉ bl t∧t.size≤4000000):=by
  unfold narcissusref02_split.f
  obtain ⟨l,e,h⟩:=refSplit_l s hz s.size k 0 0 [] (by omega) (by omega) (by omega) (by omega) (by simp;omega) (by simp)
  rw [List.drop_zero] at h
  exact ⟨l,e,h⟩
def dval:Int→List UInt8→Int
  | n,[]=>n
  | n,c :: l=>dval (10 * n+((c.toNat:Int) - 48)) l
theorem refInteger_l (s:ByteArray) (hz:s.size≤4000000) (sg:Int) (hsg:sg=1 ∨ sg = -1) (d:Nat) : ∀ (k i:Nat) (n:Int),s.size - i=d→i≤s.size→2 * d+2<k→0≤n→n<10 ^ i→i≤5 →
    ∃ v ok,narcissusref02_integer.l0 k s sg n (i:Int)=some (v,ok)∧(s.size≤5→s.size ≠ 0→(∀ c ∈ (bl s).drop i,48≤c.toNat∧c.toNat≤57)→ok=true∧v=sg * dval n ((bl s).drop i)):=by
  induction d with
  | zero =>
    intro k i n hd hi hk h0 h1 h5
    obtain ⟨k,rfl⟩ : ∃ m,k=m+1:=⟨k - 1,by omega⟩
    have hi5:i≤5:=h5
    have hp:(10:Int) ^ i≤10 ^ 5:=by
      rcases (by omega:i=0 ∨ i=1 ∨ i=2 ∨ i=3 ∨ i=4 ∨ i=5) with e|e|e|e|e|e<;>subst e<;>decide
    have hp5:(10:Int) ^ 5=100000:=by decide
    have hw:wrap64 (sg * n)=sg * n:=by rcases hsg with e|e<;>subst e<;>exact wrap_small (by omega) (by omega)
    rw [narcissusref02_integer.l0,if_neg (by omega),hw,toL]
    refine ⟨_,_,rfl,fun _ hne _=>⟨?_,?_⟩⟩
    · rw [bne_iff_ne]
      intro e
      exact hne (by rw [← bl_len,e];rfl)
    · rw [List.drop_eq_nil_of_le (by rw [bl_len];omega)]
      rfl
  | succ d ih =>
    intro k i n hd hi hk h0 h1 h5
    obtain ⟨k,rfl⟩ : ∃ m,k=m+2:=⟨k - 2,by omega⟩
    have hi5:i≤5:=h5
    have hlt:i<(bl s).length:=by rw [bl_len];omega
    have hdrop:(bl s).drop i=(bl s)[i] :: (bl s).drop (i+1):=List.drop_eq_getElem_cons hlt
    have w1:wrap64 ((i:Int)+1)=((i+1:Nat):Int):=wrap_small (by omega) (by omega)
    have hb:=bt_at s i hlt
    generalize (bl s)[i]=c at *
    rw [narcissusref02_integer.l0,if_pos (by omega),if_pos (by omega),hb]
    by_cases hc:48≤c.toNat∧c.toNat≤57
    · rw [if_neg (by omega),decide_eq_false (by omega),narcissusref02_integer.j3,if_neg (by decide),if_pos (by omega),if_pos (by omega)]
      by_cases hi4:i≤4
      · have hp:(10:Int) ^ i≤10000:=by
          rcases (by omega:i=0 ∨ i=1 ∨ i=2 ∨ i=3 ∨ i=4) with e|e|e|e|e<;>subst e<;>decide
        have hps:(10:Int) ^ (i+1)=10 * 10 ^ i:=by rw [Int.pow_succ,Int.mul_comm]
        have wn:wrap64 (wrap64 (10 * n)+((c.toNat:Int) - 48) % 256)=10 * n+((c.toNat:Int) - 48):=by
          rw [wrap_small (x:=10 * n) (by omega) (by omega),wrap_small (by omega) (by omega)]
          omega
        rw [if_neg (by omega),hb,wn,w1]
        obtain ⟨v,ok,e,h⟩:=ih k (i+1) (10 * n+((c.toNat:Int) - 48)) (by omega) (by omega) (by omega) (by omega) (by rw [hps];omega) (by omega)
        refine ⟨v,ok,e,fun g1 g2 g3=>?_⟩
        rw [hdrop] at g3 ⊢
        exact h g1 g2 (fun x hx=>g3 x (List.mem_cons_of_mem _ hx))
      · rw [if_pos (by omega)]
        exact ⟨_,_,rfl,fun g1 _ _=>by omega⟩
    · have hj : ∀ b,b=true→narcissusref02_integer.j3 (k+1) s sg n (i:Int) b=some (0,false):=by
        intro b hb
        rw [narcissusref02_integer.j3,if_pos hb]
      have hno : ∃ v ok,some ((0:Int),false)=some (v,ok)∧(s.size≤5→s.size ≠ 0→(∀ c ∈ (bl s).drop i,48≤c.toNat∧c.toNat≤57)→ok=true∧v=sg * dval n ((bl s).drop i)):=⟨_,_,rfl,fun _ _ g3=>absurd (g3 c (by rw [hdrop];exact List.mem_cons_self)) hc⟩
      by_cases h48:(c.toNat:Int)<48
      · rw [if_pos h48,hj _ rfl]
        exact hno
      · rw [if_neg h48,hj _ (decide_eq_true (by omega))]
        exact hno
theorem dval_append : ∀ (l r:List UInt8) (n:Int),dval n (l ++ r)=dval (dval n l) r
  | [],_,_=>rfl
  | c :: l,r,n=>dval_append l r _
theorem dval_dec (u:Nat):dval 0 (Lib.decDigits u)=u:=by
  induction u using Nat.strongRecOn with
  | _ u ih =>
    rw [Lib.decDigits]
    by_cases h:u<10
    · rw [dif_pos h]
      have:(UInt8.ofNat (48+u)).toNat=48+u:=by simp;omega
      simp only [dval,this]
      omega
    · rw [dif_neg h,dval_append,ih (u / 10) (by omega)]
      have:(UInt8.ofNat (48+u % 10)).toNat=48+u % 10:=by simp;omega
      simp only [dval,this]
      omega
theorem nDigits_le : ∀ (k u:Nat),u<10 ^ (k+1)→Lib.nDigits u≤k+1
  | 0,u,h=>by rw [Lib.nDigits_small (by simpa using h)];exact Nat.le_refl _
  | k+1,u,h=>by
    by_cases h10:u<10
    · rw [Lib.nDigits_small h10];omega
    · rw [Lib.nDigits_big h10]
      have:u / 10<10 ^ (k+1):=by
        rw [Nat.pow_succ] at h
        omega
      have:=nDigits_le k (u / 10) this
      omega
theorem refInteger_tells (s:ByteArray) (hz:s.size≤4000000) (k:Nat) (hk:8000020≤k) :
    ∃ v ok,narcissusref02_integer.f k s=some (v,ok)∧(∀ n:Int,-99999≤n→n≤99999→bl s=Lib.itoa n→ok=true∧v=n):=by
  obtain ⟨k,rfl⟩ : ∃ m,k=m+2:=⟨k - 2,by omega⟩
  have hlen : ∀ u:Nat,u≤99999→(Lib.decDigits u).length≤5∧(Lib.decDigits u).length ≠ 0:=by
    intro u hu
    refine ⟨by rw [Lib.decDigits_length];exact nDigits_le 4 u (by omega),fun e=>decDigits_ne u (List.length_eq_zero_iff.1 e)⟩
  have hpos : ∀ t:ByteArray,t.size≤4000000 → ∀ sg:Int,sg=1 ∨ sg = -1 → ∃ v ok,narcissusref02_integer.j1 (k+1) t sg 0=some (v,ok)∧(∀ u:Nat,u≤99999→bl t=Lib.decDigits u→ok=true∧v=sg * (u:Int)):=by
    intro t ht sg hsg
    obtain ⟨v,ok,e,h⟩:=refInteger_l t ht sg hsg t.size k 0 0 (by omega) (by omega) (by omega) (by omega) (by decide) (by omega)
    refine ⟨v,ok,?_,fun u hu hb=>?_⟩
    · rw [narcissusref02_integer.j1]
      exact e
    · obtain ⟨l1,l2⟩:=hlen u hu
      rw [← hb,bl_len] at l1 l2
      have:=h l1 l2 (by rw [List.drop_zero,hb];exact decDigits_digit u)
      rw [List.drop_zero,hb,dval_dec] at this
      exact this
  unfold narcissusref02_integer.f
  rw [toL]
  by_cases he:bl s = []
  · obtain ⟨v,ok,e,_⟩:=hpos s hz 1 (.inl rfl)
    rw [if_pos he,narcissusref02_integer.j0,if_neg (by decide)]
    refine ⟨v,ok,e,fun n _ _ hb=>?_⟩
    rw [he] at hb
    unfold Lib.itoa at hb
    split at hb
    · cases hb
    · exact absurd hb.symm (decDigits_ne _)
  · have hl:0<(bl s).length:=by
      rcases Nat.eq_zero_or_pos (bl s).length with h|h
      · exact absurd (List.length_eq_zero_iff.1 h) he
      · exact h
    have hl2:0<s.size:=by rw [← bl_len];exact hl
    have hb0:=bt_at s 0 hl
    rw [show ((0:Nat):Int)=0 from rfl] at hb0
    have hd:bl s=(bl s)[0] :: (bl s).drop 1:=by
      have:=List.drop_eq_getElem_cons hl
      rwa [List.drop_zero] at this
    rw [if_neg he,if_pos (by omega),narcissusref02_integer.j0,hb0]
    by_cases h45:(bl s)[0]=45
    · have e45:((((bl s)[0]).toNat:Int) == 45)=true:=by rw [h45];rfl
      obtain ⟨v,ok,e,h⟩:=hpos (s.extract 1 s.size) (by rw [ByteArray.size_extract];omega) (-1) (.inr rfl)
      rw [e45,if_pos rfl,if_pos (by omega)]
      refine ⟨v,ok,e,fun n h0 h1 hb=>?_⟩
      have hneg:n<0:=by
        apply Classical.byContradiction
        intro hn
        unfold Lib.itoa at hb
        rw [if_neg hn] at hb
        have:=decDigits_digit n.toNat ((bl s)[0]) (by rw [← hb];exact List.getElem_mem hl)
        rw [h45] at this
        exact absurd this.1 (by decide)
      unfold Lib.itoa at hb
      rw [if_pos hneg,hd] at hb
      injection hb with _ hb
      have hx:bl (s.extract 1 s.size)=(bl s).drop 1:=by rw [bl_extract,← bl_len,List.take_length]
      obtain ⟨g1,g2⟩:=h n.natAbs (by omega) (hx.trans hb)
      exact ⟨g1,by rw [g2];omega⟩
    · have e45:((((bl s)[0]).toNat:Int) == 45)=false:=beq_eq_false_iff_ne.2 (fun h=>h45 ((byte45 _).1 h))
      obtain ⟨v,ok,e,h⟩:=hpos s hz 1 (.inl rfl)
      rw [e45,if_neg (by decide)]
      refine ⟨v,ok,e,fun n h0 h1 hb=>?_⟩
      have hpos : ¬ n<0:=by
        intro hn
        unfold Lib.itoa at hb
        rw [if_pos hn,hd] at hb
        injection hb with hb _
        exact h45 hb
      unfold Lib.itoa at hb
      rw [if_neg hpos] at hb
      obtain ⟨g1,g2⟩:=h n.toNat (by omega) hb
      exact ⟨g1,by rw [g2];omega⟩
theorem refNames:narcissusref02_names.f=some wordNames:=rfl
theorem word_at (i:Nat) (h:i<6):bl (rdOf ByteArray.empty wordNames (i:Int))=nameOf (i:Int):=rfl
theorem refRead_l (l:List ByteArray) (hl:l ≠ []) (d:Nat) : ∀ (k i:Nat) (op:Int),6 - i=d→i≤6 →
    ∃ op':Int,narcissusref02_read.l0 (k+d+1) l (i:Int) op 0 0 0 (⟨#[]⟩:ByteArray)=(if op'=2 then narcissusref02_read.j1 k l 4 op' 0 0 0 (⟨#[]⟩:ByteArray) else narcissusref02_read.j1 k l 3 op' 0 0 0 (⟨#[]⟩:ByteArray)) ∧
      ((∃ j:Nat,i≤j∧j<6∧bl (rdOf ByteArray.empty l 0)=nameOf (j:Int)∧op'=j) ∨ ((∀ j:Nat,i≤j→j<6→bl (rdOf ByteArray.empty l 0) ≠ nameOf (j:Int))∧op'=op)):=by
  have hl0:0<(l.length:Int):=by
    rcases Nat.eq_zero_or_pos l.length with h|h
    · exact absurd (List.length_eq_zero_iff.1 h) hl
    · omega
  have h6:(wordNames.length:Int)=6:=rfl
  induction d with
  | zero =>
    intro k i op hd hi
    refine ⟨op,?_,.inr ⟨fun j h1 h2=>by omega,rfl⟩⟩
    rw [narcissusref02_read.l0,refNames,Option.bind_some,if_neg (by omega)]
  | succ d ih =>
    intro k i op hd hi
    have hi6:i<6:=by omega
    have w1:wrap64 ((i:Int)+1)=((i+1:Nat):Int):=wrap_small (by omega) (by omega)
    have hw:=word_at i hi6
    rw [show k+(d+1)+1=(k+d+1)+1 from rfl,narcissusref02_read.l0,refNames,Option.bind_some,if_pos (by omega),if_pos hl0,Option.bind_some,if_pos (by omega),if_pos (by omega),toL,toL,hw,w1]
    by_cases he:bl (rdOf ByteArray.empty l 0)=nameOf (i:Int)
    · rw [if_pos he]
      obtain ⟨op',e,h⟩:=ih k (i+1) (i:Int) (by omega) (by omega)
      refine ⟨op',e,?_⟩
      rcases h with ⟨j,h1,h2,h3,h4⟩|⟨_,h4⟩
      · exact .inl ⟨j,by omega,h2,h3,h4⟩
      · exact .inl ⟨i,Nat.le_refl _,hi6,he,h4⟩
    · rw [if_neg he]
      obtain ⟨op',e,h⟩:=ih k (i+1) op (by omega) (by omega)
      refine ⟨op',e,?_⟩
      rcases h with ⟨j,h1,h2,h3,h4⟩|⟨hno,h4⟩
      · exact .inl ⟨j,by omega,h2,h3,h4⟩
      · refine .inr ⟨fun j h1 h2=>?_,h4⟩
        by_cases hji:j=i
        · subst hji;exact he
        · exact hno j (by omega) h2
theorem refRead_tells (s:ByteArray) (hz:s.size≤4000000) (k:Nat) (hk:8000100≤k) :
    ∃ (x:Ins) (ok:Bool),narcissusref02_read.f k s=some (x.f0,x.f1,x.f2,x.f3,x.f4,ok)∧x.f4.size≤4000000∧(∀ y,Nice y→(∀ n,n=y.f1 ∨ n=y.f2 ∨ n=y.f3 → -99999≤n∧n≤99999)→bl s=textOf y→ok=true∧x=y):=by
  obtain ⟨l,el,hne,hj,hw⟩:=refSplit_tells s hz k (by omega)
  obtain ⟨k,rfl⟩ : ∃ m,k=m+2+6+1:=⟨k - 9,by omega⟩
  obtain ⟨op,e0,hop⟩:=refRead_l l hne 6 (k+2) 0 (-1) rfl (by omega)
  rw [show ((0:Nat):Int)=0 from rfl] at e0
  have hsplit : ∀ y,Nice y→bl s=textOf y→l.map bl=wordsOf y:=by
    intro y hy h
    refine splits (t:=[]) (by simpa using hne) (words_ne y) (fun x hx=>?_) (words_no (tnice_of_nice hy) (.inl rfl) (nice_tree hy).1) (hj.trans h)
    obtain ⟨t,ht,rfl⟩:=List.mem_map.1 hx
    exact (hw t ht).1
  have hopn : ∀ y,Nice y→bl s=textOf y→op=y.f0:=by
    intro y hy h
    have hwy:=hsplit y hy h
    have hr:=item_op hy
    have h0:bl (rdOf ByteArray.empty l 0)=nameOf y.f0:=by
      match l,hwy with
      | w :: ws,hwy =>
        unfold wordsOf at hwy
        rw [List.map_cons,List.cons.injEq] at hwy
        exact hwy.1
      | [],hwy=>simp [wordsOf] at hwy
    rcases hop with ⟨j,_,h6,hn,ho⟩|⟨hno,_⟩
    · rw [ho]
      exact name_inj _ _ (by omega) (by omega) hr.1 hr.2 (hn.symm.trans h0)
    · exact absurd (by rw [show ((y.f0.toNat:Nat):Int)=y.f0 from by omega];exact h0) (hno y.f0.toNat (by omega) (by omega))
  have hwl : ∀ y,Nice y→bl s=textOf y→(l.length:Int)=if op=2 then 4 else 3:=by
    intro y hy h
    have h1:=congrArg List.length (hsplit y hy h)
    rw [List.length_map] at h1
    rw [hopn y hy h]
    by_cases h2:y.f0=2
    · rw [if_pos h2];rw [words_cons h2] at h1;simp at h1;omega
    · rw [if_neg h2]
      by_cases h0:y.f0=0
      · rw [words_set h0] at h1;simp at h1;omega
      · rw [words_two h0 h2] at h1;simp at h1;omega
  have hat : ∀ (i:Nat) (hi:i<l.length),(rdOf ByteArray.empty l (i:Int)).size≤4000000:=by
    intro i hi
    rw [rdOf_nat l i hi]
    exact (hw _ (List.getElem_mem hi)).2
  have hj2 : ∀ b:Bool,(b=true↔(op<0 ∨ (l.length:Int) ≠ if op=2 then 4 else 3)) → ∃ (x:Ins) (ok:Bool),narcissusref02_read.j2 (k+1) l b op 0 0 0 (⟨#[]⟩:ByteArray)=some (x.f0,x.f1,x.f2,x.f3,x.f4,ok)∧x.f4.size≤4000000∧(∀ y,Nice y→(∀ n,n=y.f1 ∨ n=y.f2 ∨ n=y.f3 → -99999≤n∧n≤99999)→bl s=textOf y→ok=true∧x=y):=by
    intro b hb
    rw [narcissusref02_read.j2]
    have z0:(⟨#[]⟩:ByteArray).size≤4000000:=by decide
    cases b with
    | true =>
      refine ⟨⟨op,0,0,0,⟨#[]⟩⟩,false,rfl,z0,fun y hy _ h=>?_⟩
      rcases hb.1 rfl with h1|h1
      · have:=hopn y hy h
        have:=(item_op hy).1
        omega
      · exact absurd (hwl y hy h) h1
    | false =>
      have hnot : ¬ (op<0 ∨ (l.length:Int) ≠ if op=2 then 4 else 3):=fun h=>by have:=hb.2 h;cases this
      have hop0:0≤op:=by omega
      have hlen:(l.length:Int)=if op=2 then 4 else 3:=Classical.byContradiction fun h=>hnot (.inr h)
      have hl3:3≤l.length:=by split at hlen<;>omega
      obtain ⟨v1,o1,e1,g1⟩:=refInteger_tells (rdOf ByteArray.empty l 1) (hat 1 (by omega)) k (by omega)
      have z2:=hat 2 (by omega)
      rw [show ((2:Nat):Int)=2 from rfl] at z2
      obtain ⟨v2,o2,e2,g2⟩:=refInteger_tells (rdOf ByteArray.empty l 2) z2 k (by omega)
      rw [if_neg (by decide),if_pos (by omega),e1,Option.bind_some]
      obtain ⟨w0,w1,w2,ws,rfl⟩ : ∃ w0 w1 w2 ws,l=w0 :: w1 :: w2 :: ws:=by
        match l,hl3 with
        | w0 :: w1 :: w2 :: ws,_=>exact ⟨w0,w1,w2,ws,rfl⟩
        | [w0,w1],h3=>simp at h3
        | [w0],h3=>simp at h3
        | [],h3=>simp at h3
      have r1:rdOf ByteArray.empty (w0 :: w1 :: w2 :: ws) 1=w1:=rfl
      have r2:rdOf ByteArray.empty (w0 :: w1 :: w2 :: ws) 2=w2:=rfl
      rw [r1] at g1
      rw [r2] at g2 z2 e2
      rw [r2]
      by_cases h0:op=0
      · rw [if_pos h0,if_pos (by omega)]
        refine ⟨⟨op,v1,0,0,w2⟩,o1,rfl,z2,fun y hy hs h=>?_⟩
        have hwy:=hsplit y hy h
        have ho:=hopn y hy h
        rw [words_set (by omega)] at hwy
        simp only [List.map_cons,List.cons.injEq] at hwy
        obtain ⟨_,b1,b2,_⟩:=hwy
        obtain ⟨hok,hv⟩:=g1 y.f1 (hs _ (.inl rfl)).1 (hs _ (.inl rfl)).2 b1
        obtain ⟨_,_,hy⟩:=hy
        rcases hy with hy|hy|hy|hy
        · exact ⟨hok,ins_eq ho hv hy.2.1.symm hy.2.2.1.symm b2⟩
        · omega
        · omega
        · omega
      · rw [if_neg h0,if_pos (by omega),e2,Option.bind_some]
        by_cases h2:op=2
        · rw [if_pos h2] at hlen
          have hl4:3<(w0 :: w1 :: w2 :: ws).length:=by omega
          obtain ⟨w3,ws',rfl⟩ : ∃ w3 ws',ws=w3 :: ws':=by
            match ws,hl4 with
            | w3 :: ws',_=>exact ⟨w3,ws',rfl⟩
            | [],h=>simp at h
          have r3:rdOf ByteArray.empty (w0 :: w1 :: w2 :: w3 :: ws') 3=w3:=rfl
          have z3:=hat 3 hl4
          rw [show ((3:Nat):Int)=3 from rfl,r3] at z3
          obtain ⟨v3,o3,e3,g3⟩:=refInteger_tells w3 z3 k (by omega)
          rw [if_pos h2,if_pos (by omega),r3,e3,Option.bind_some]
          have hgoal : ∀ ok,(o1=true→o2=true→ok=o3) → ∃ (x:Ins) (ok':Bool),some (op,v1,v2,v3,(⟨#[]⟩:ByteArray),ok)=some (x.f0,x.f1,x.f2,x.f3,x.f4,ok')∧x.f4.size≤4000000∧(∀ y,Nice y→(∀ n,n=y.f1 ∨ n=y.f2 ∨ n=y.f3 → -99999≤n∧n≤99999)→bl s=textOf y→ok'=true∧x=y):=by
            intro ok hok
            refine ⟨⟨op,v1,v2,v3,⟨#[]⟩⟩,ok,rfl,z0,fun y hy hs h=>?_⟩
            have hwy:=hsplit y hy h
            have ho:=hopn y hy h
            rw [words_cons (by omega)] at hwy
            simp only [List.map_cons,List.cons.injEq] at hwy
            obtain ⟨_,b1,b2,b3,_⟩:=hwy
            obtain ⟨k1,hv1⟩:=g1 y.f1 (hs _ (.inl rfl)).1 (hs _ (.inl rfl)).2 b1
            obtain ⟨k2,hv2⟩:=g2 y.f2 (hs _ (.inr (.inl rfl))).1 (hs _ (.inr (.inl rfl))).2 b2
            obtain ⟨k3,hv3⟩:=g3 y.f3 (hs _ (.inr (.inr rfl))).1 (hs _ (.inr (.inr rfl))).2 b3
            obtain ⟨_,_,hy⟩:=hy
            rcases hy with hy|hy|hy|hy
            · omega
            · exact ⟨(hok k1 k2).trans k3,ins_eq ho hv1 hv2 hv3 hy.2.2.2.2.2.symm⟩
            · omega
            · omega
          cases o1 with
          | false=>simpa only [Bool.false_eq_true,if_false] using hgoal false (fun h=>by cases h)
          | true =>
            cases o2 with
            | false=>simpa only [Bool.false_eq_true,if_false,if_true] using hgoal false (fun _ h=>by cases h)
            | true=>simpa only [if_true] using hgoal o3 (fun _ _=>rfl)
        · rw [if_neg h2]
          have hgoal : ∀ ok,(o1=true→ok=o2) → ∃ (x:Ins) (ok':Bool),some (op,v1,v2,(0:Int),(⟨#[]⟩:ByteArray),ok)=some (x.f0,x.f1,x.f2,x.f3,x.f4,ok')∧x.f4.size≤4000000∧(∀ y,Nice y→(∀ n,n=y.f1 ∨ n=y.f2 ∨ n=y.f3 → -99999≤n∧n≤99999)→bl s=textOf y→ok'=true∧x=y):=by
            intro ok hok
            refine ⟨⟨op,v1,v2,0,⟨#[]⟩⟩,ok,rfl,z0,fun y hy hs h=>?_⟩
            have hwy:=hsplit y hy h
            have ho:=hopn y hy h
            rw [words_two (by omega) (by omega)] at hwy
            simp only [List.map_cons,List.cons.injEq] at hwy
            obtain ⟨_,b1,b2,_⟩:=hwy
            obtain ⟨k1,hv1⟩:=g1 y.f1 (hs _ (.inl rfl)).1 (hs _ (.inl rfl)).2 b1
            obtain ⟨k2,hv2⟩:=g2 y.f2 (hs _ (.inr (.inl rfl))).1 (hs _ (.inr (.inl rfl))).2 b2
            obtain ⟨_,_,hy⟩:=hy
            rcases hy with hy|hy|hy|hy
            · omega
            · omega
            · exact ⟨(hok k1).trans k2,ins_eq ho hv1 hv2 hy.2.2.2.1.symm hy.2.2.2.2.symm⟩
            · exact ⟨(hok k1).trans k2,ins_eq ho hv1 hv2 hy.2.2.2.1.symm hy.2.2.2.2.symm⟩
          cases o1 with
          | false=>simpa only [Bool.false_eq_true,if_false] using hgoal false (fun h=>by cases h)
          | true=>simpa only [if_true] using hgoal o2 (fun _=>rfl)
  have hj1 : ∀ n:Int,n=(if op=2 then 4 else 3) → ∃ (x:Ins) (ok:Bool),narcissusref02_read.j1 (k+2) l n op 0 0 0 (⟨#[]⟩:ByteArray)=some (x.f0,x.f1,x.f2,x.f3,x.f4,ok)∧x.f4.size≤4000000∧(∀ y,Nice y→(∀ n,n=y.f1 ∨ n=y.f2 ∨ n=y.f3 → -99999≤n∧n≤99999)→bl s=textOf y→ok=true∧x=y):=by
    intro n hn
    rw [narcissusref02_read.j1]
    by_cases hneg:op<0
    · rw [if_pos hneg]
      exact hj2 true ⟨fun _=>.inl hneg,fun _=>rfl⟩
    · rw [if_neg hneg]
      refine hj2 _ ?_
      rw [bne_iff_ne,hn]
      exact ⟨fun h=>.inr h,fun h=>by rcases h with h|h;exact absurd h hneg;exact h⟩
  unfold narcissusref02_read.f
  rw [el,Option.bind_some,show k+2+6+1=(k+2)+6+1 from rfl,e0]
  by_cases h2:op=2
  · rw [if_pos h2]
    exact hj1 4 (by rw [if_pos h2])
  · rw [if_neg h2]
    exact hj1 3 (by rw [if_neg h2])
theorem piece (s:ByteArray) (frm n:Nat) (t r:List UInt8) (h:(bl s).drop frm=t ++ r) (hn:n=t.length):bl (s.extract frm (frm+n))=t:=by
  rw [bl_extract,List.drop_take,Nat.add_sub_cancel_left,h,hn,List.take_left]
theorem refParse_some (s:ByteArray) (hz:s.size≤4000000) (d:Nat) : ∀ (k i frm:Nat) (p:List Ins),s.size+1 - i=d→i≤s.size+1→(frm≤i ∨ (frm=i+1 ∧ ∃ h:i<(bl s).length,(bl s)[i]=32))→2 * d+13000000<k→p.length≤4000→Fits p→(i=s.size+1→True) →
    ∃ q v,narcissusref02_Parse.l0 k s p (frm:Int) (i:Int)=some (q,v)∧(v=true→OKP q∧bl s=textL q):=by
  induction d with
  | zero =>
    intro k i frm p hd hi hf hk hp hfit _
    obtain ⟨k,rfl⟩ : ∃ m,k=m+1:=⟨k - 1,by omega⟩
    rw [narcissusref02_Parse.l0,if_neg (by omega)]
    by_cases hok:OKP p
    · rw [refValidp_yes hfit (by omega) hok,Option.bind_some,if_pos rfl,refText_yes (by omega) hok,Option.bind_some,toL,toL,bl_bs]
      exact ⟨_,_,rfl,fun h=>⟨hok,(beq_iff_eq.1 h).symm⟩⟩
    · rw [refValidp_no hfit (by omega) hok,Option.bind_some,if_neg (by decide)]
      exact ⟨_,_,rfl,fun h=>by cases h⟩
  | succ d ih =>
    intro k i frm p hd hi hf hk hp hfit _
    obtain ⟨k,rfl⟩ : ∃ m,k=m+2:=⟨k - 2,by omega⟩
    have w1:wrap64 ((i:Int)+1)=((i+1:Nat):Int):=wrap_small (by omega) (by omega)
    have w2:wrap64 ((i:Int)+2)=((i+2:Nat):Int):=wrap_small (by omega) (by omega)
    have w3:wrap64 ((s.size:Int) - 1)=(s.size:Int) - 1:=wrap_small (by omega) (by omega)
    have hread:frm≤i→(i=s.size ∨ ∃ h:i<(bl s).length,(bl s)[i]=59) → ∃ q v,narcissusref02_Parse.j1 (k+1) s p (frm:Int) (i:Int) false=some (q,v)∧(v=true→OKP q∧bl s=textL q):=by
      intro hfi _
      obtain ⟨x,ok,ex,hx,_⟩:=refRead_tells (s.extract frm i) (by rw [ByteArray.size_extract];omega) k (by omega)
      have hno : ∃ q v,some (([]:List Ins),false)=some (q,v)∧(v=true→OKP q∧bl s=textL q):=⟨_,_,rfl,fun h=>by cases h⟩
      have happ:p.length ≠ 4000 → ∀ j,j=i+1→(i+1≤s.size → ∃ h:i+1<(bl s).length,(bl s)[i+1]=32) → ∃ q v,narcissusref02_Parse.l0 k s (p ++ [(⟨x.f0,x.f1,x.f2,x.f3,x.f4⟩:Ins)]) ((i+2:Nat):Int) ((i+1:Nat):Int)=some (q,v)∧(v=true→OKP q∧bl s=textL q):=by
        intro h4 j _ hb
        by_cases hlast:i=s.size
        ·
          obtain ⟨k,rfl⟩ : ∃ m,k=m+1:=⟨k - 1,by omega⟩
          have hfit':Fits (p ++ [(⟨x.f0,x.f1,x.f2,x.f3,x.f4⟩:Ins)]):=fun y hy=>by
            rcases List.mem_append.1 hy with hy|hy
            · exact hfit y hy
            · rw [List.mem_singleton.1 hy];show x.f4.size≤_;omega
          rw [narcissusref02_Parse.l0,if_neg (by omega)]
          by_cases hok:OKP (p ++ [(⟨x.f0,x.f1,x.f2,x.f3,x.f4⟩:Ins)])
          · rw [refValidp_yes hfit' (by omega) hok,Option.bind_some,if_pos rfl,refText_yes (by omega) hok,Option.bind_some,toL,toL,bl_bs]
            exact ⟨_,_,rfl,fun h=>⟨hok,(beq_iff_eq.1 h).symm⟩⟩
          · rw [refValidp_no hfit' (by omega) hok,Option.bind_some,if_neg (by decide)]
            exact ⟨_,_,rfl,fun h=>by cases h⟩
        · refine ih k (i+1) (i+2) _ (by omega) (by omega) (.inr ⟨rfl,hb (by omega)⟩) (by omega) (by rw [List.length_append,List.length_singleton];omega) (fun y hy=>?_) (fun _=>trivial)
          rcases List.mem_append.1 hy with hy|hy
          · exact hfit y hy
          · rw [List.mem_singleton.1 hy];show x.f4.size≤_;omega
      rw [narcissusref02_Parse.j1,if_neg (by decide),if_pos (by omega),if_pos (by omega),if_pos (by omega),Int.toNat_natCast,Int.toNat_natCast,ex,Option.bind_some]
      simp only [w1,w2,w3]
      cases ok with
      | false=>rw [if_neg (by decide)];exact hno
      | true =>
        rw [if_pos rfl]
        by_cases hlt:(i:Int)<(s.size:Int) - 1
        · have hi1:i+1<(bl s).length:=by rw [bl_len];omega
          have hb:=bt_at s (i+1) hi1
          rw [if_pos hlt,if_pos (by omega),if_pos (by omega),hb]
          by_cases h32:(bl s)[i+1]=32
          · rw [if_pos ((byte32 _).2 h32),if_neg (by omega)]
            by_cases h4:(p.length:Int)=4000
            · rw [if_pos h4];exact hno
            · rw [if_neg h4,if_pos (by omega)]
              exact happ (by omega) _ rfl (fun _=>⟨hi1,h32⟩)
          · rw [if_neg (fun h=>h32 ((byte32 _).1 h))];exact hno
        · rw [if_neg hlt]
          by_cases hl:(i:Int)=(s.size:Int) - 1
          · rw [if_pos hl];exact hno
          · rw [if_neg hl]
            by_cases h4:(p.length:Int)=4000
            · rw [if_pos h4];exact hno
            · rw [if_neg h4,if_pos (by omega)]
              exact happ (by omega) _ rfl (fun h=>by omega)
    have hskip : ∀ h:i<(bl s).length,(bl s)[i] ≠ 59 → ∃ q v,narcissusref02_Parse.j1 (k+1) s p (frm:Int) (i:Int) true=some (q,v)∧(v=true→OKP q∧bl s=textL q):=by
      intro h _
      rw [bl_len] at h
      rw [narcissusref02_Parse.j1,if_pos rfl,w1]
      exact ih k (i+1) frm p (by omega) (by omega) (.inl (by rcases hf with h|h;omega;omega)) (by omega) hp hfit (fun _=>trivial)
    rw [narcissusref02_Parse.l0,if_pos (by omega)]
    by_cases hlt:i<s.size
    · have hlt':i<(bl s).length:=by rw [bl_len];exact hlt
      have hb:=bt_at s i hlt'
      rw [if_pos (by omega),if_pos (by omega),hb]
      by_cases h59:(bl s)[i]=59
      · rw [show ((((bl s)[i]).toNat:Int) != 59)=false from by rw [h59];rfl]
        refine hread ?_ (.inr ⟨hlt',h59⟩)
        rcases hf with h|⟨_,h,h32⟩
        · exact h
        · rw [h59] at h32;exact absurd h32 (by decide)
      · rw [show ((((bl s)[i]).toNat:Int) != 59)=true from bne_iff_ne.2 (fun h=>h59 ((byte59 _).1 h))]
        exact hskip hlt' h59
    · rw [if_neg (by omega)]
      refine hread ?_ (.inl (by omega))
      rcases hf with h|⟨_,h,_⟩
      · exact h
      · rw [bl_len] at h;omega
theorem text_fields {p:List Ins} (hp:OKP p) : ∀ y ∈ p,∀ n,n=y.f1 ∨ n=y.f2 ∨ n=y.f3 → -99999≤n∧n≤99999:=by
  intro y hy n hn
  obtain ⟨i,hi,rfl⟩:=List.getElem_of_mem hy
  have h:=hp.2.2 i hi
  have h4:=hp.1
  rw [rd_at p i hi] at h
  have h1:=right_reg h
  by_cases h5:p[i].f0=5
  · unfold Right at h
    rcases h with h|h|h|h
    · omega
    · omega
    · omega
    · obtain ⟨_,_,g1,g2,g3,_⟩:=h
      have:=h1.1
      have:=h1.2
      rcases hn with rfl|rfl|rfl<;>omega
  · obtain ⟨⟨a1,a2⟩,b1,b2⟩:=right_regs h h5
    have:=h1.1
    have:=h1.2
    rcases hn with rfl|rfl|rfl<;>omega
theorem refParse_skip (s:ByteArray) (hz:s.size≤4000000) (p:List Ins) (k i frm:Nat) (hlt:i<(bl s).length) (h59:(bl s)[i] ≠ 59) :
    narcissusref02_Parse.l0 (k+2) s p (frm:Int) (i:Int)=narcissusref02_Parse.l0 k s p (frm:Int) ((i+1:Nat):Int):=by
  have hb:=bt_at s i hlt
  have hl2:i<s.size:=by rw [← bl_len];exact hlt
  have w1:wrap64 ((i:Int)+1)=((i+1:Nat):Int):=wrap_small (by omega) (by omega)
  have hn:((((bl s)[i]).toNat:Int) != 59)=true:=bne_iff_ne.2 (fun h=>h59 ((byte59 _).1 h))
  rw [narcissusref02_Parse.l0,if_pos (by omega),if_pos (by omega),if_pos (by omega),hb,hn,narcissusref02_Parse.j1,if_pos rfl,w1]
theorem refParse_read (s:ByteArray) (hz:s.size≤4000000) (p:List Ins) (hp:p.length<4000) (k i frm:Nat) (x:Ins) (hfi:frm≤i) (hlt:i+1<(bl s).length) (h59:(bl s)[i]=59) (h32:(bl s)[i+1]=32)
    (ex:narcissusref02_read.f k (s.extract frm i)=some (x.f0,x.f1,x.f2,x.f3,x.f4,true)) :
    narcissusref02_Parse.l0 (k+2) s p (frm:Int) (i:Int)=narcissusref02_Parse.l0 k s (p ++ [x]) ((i+2:Nat):Int) ((i+1:Nat):Int):=by
  have b0:=bt_at s i (by omega)
  have b1:=bt_at s (i+1) hlt
  rw [h59] at b0
  rw [h32] at b1
  have e0:bt s (i:Int)=59:=b0
  have e1:bt s ((i+1:Nat):Int)=32:=b1
  have hl2:i+1<s.size:=by rw [← bl_len];exact hlt
  clear b0 b1 h59 h32 hlt;have w1:wrap64 ((i:Int)+1)=((i+1:Nat):Int):=wrap_small (by omega) (by omega)
  have w2:wrap64 ((i:Int)+2)=((i+2:Nat):Int):=wrap_small (by omega) (by omega)
  have w3:wrap64 ((s.size:Int) - 1)=(s.size:Int) - 1:=wrap_small (by omega) (by omega)
  rw [narcissusref02_Parse.l0,if_pos (by clear e0 e1 ex;omega),if_pos (by clear e0 e1 ex;omega),if_pos (by clear e0 e1 ex;omega),e0,show ((59:Int) != 59)=false from rfl,narcissusref02_Parse.j1,if_neg (by decide),if_pos (by clear e0 e1 ex;omega),if_pos (by clear e0 e1 ex;omega),if_pos (by clear e0 e1 ex;omega),Int.toNat_natCast,Int.toNat_natCast,ex,Option.bind_some]
  rw [w1,w2,w3,e1,if_pos rfl,if_pos (by clear e0 e1 ex;omega),if_pos (by clear e0 e1 ex;omega),if_pos (by clear e0 e1 ex;omega),if_pos rfl,if_neg (by clear e0 e1 ex;omega),if_neg (by clear e0 e1 ex;omega),if_pos (by clear e0 e1 ex;omega)]
theorem refParse_last (s:ByteArray) (hz:s.size≤4000000) (p:List Ins) (hp:p.length<4000) (k i frm:Nat) (x:Ins) (hfi:frm≤i) (hi:i=s.size)
    (ex:narcissusref02_read.f k (s.extract frm i)=some (x.f0,x.f1,x.f2,x.f3,x.f4,true)) :
    narcissusref02_Parse.l0 (k+2) s p (frm:Int) (i:Int)=narcissusref02_Parse.l0 k s (p ++ [x]) ((i+2:Nat):Int) ((i+1:Nat):Int):=by
  have w1:wrap64 ((i:Int)+1)=((i+1:Nat):Int):=wrap_small (by omega) (by omega)
  have w2:wrap64 ((i:Int)+2)=((i+2:Nat):Int):=wrap_small (by omega) (by omega)
  have w3:wrap64 ((s.size:Int) - 1)=(s.size:Int) - 1:=wrap_small (by omega) (by omega)
  rw [narcissusref02_Parse.l0,if_pos (by omega),if_neg (by omega),narcissusref02_Parse.j1,if_neg (by decide),if_pos (by omega),if_pos (by omega),if_pos (by omega),Int.toNat_natCast,Int.toNat_natCast,ex,Option.bind_some]
  rw [w1,w2,w3,if_pos rfl,if_neg (by omega),if_neg (by omega),if_neg (by omega),if_pos (by omega)]
theorem refParse_pass (s:ByteArray) (hz:s.size≤4000000) (p:List Ins) (x:Ins) (hx:Nice x) (r:List UInt8) (frm:Nat) (hb:(bl s).drop frm=textOf x ++ r) (d:Nat) : ∀ (k i:Nat),frm+(textOf x).length - i=d→frm≤i→i≤frm+(textOf x).length →
    narcissusref02_Parse.l0 (k+2 * d) s p (frm:Int) (i:Int)=narcissusref02_Parse.l0 k s p (frm:Int) ((frm+(textOf x).length:Nat):Int):=by
  have hl:=congrArg List.length hb
  rw [List.length_drop,List.length_append] at hl
  induction d with
  | zero =>
    intro k i hd hfi hi
    rw [show i=frm+(textOf x).length from by omega]
    rfl
  | succ d ih =>
    intro k i hd hfi hi
    have hlt:i<(bl s).length:=by omega
    have h59:(bl s)[i] ≠ 59:=by
      intro e
      refine textOf_no (tnice_of_nice hx) (nice_tree hx).2 ?_
      have h1:((bl s).drop frm)[i - frm]? = some 59:=by
        rw [List.getElem?_drop,show frm+(i - frm)=i from by omega,List.getElem?_eq_getElem hlt,e]
      rw [hb,List.getElem?_append_left (by omega)] at h1
      exact List.mem_of_getElem? h1
    rw [show k+2 * (d+1)=(k+2 * d)+2 from by omega,refParse_skip s hz p (k+2 * d) i frm hlt h59]
    exact ih k (i+1) (by omega) (by omega) (by omega)
theorem refParse_walk (s:ByteArray) (hz:s.size≤4000000) (p:List Ins) (hp:OKP p) (hv : ∀ k,13000000<k→narcissusref02_Parse.l0 k s p ((s.size+2:Nat):Int) ((s.size+1:Nat):Int)=some (p,true)) :
    ∀ (q2 q1:List Ins) (x:Ins),p=q1 ++ x :: q2 → ∀ (k frm:Nat),(bl s).drop frm=textOf x ++ sepd q2→13000000<k →
    narcissusref02_Parse.l0 (k+2 * (s.size+1 - frm)+4) s q1 (frm:Int) (frm:Int)=some (p,true):=by
  intro q2
  induction q2 with
  | nil =>
    intro q1 x hpx k frm hb hk
    have hmem:x ∈ p:=by rw [hpx];simp
    have hx:=okp_nice hp x hmem
    have hlp:0<(textOf x).length:=List.length_pos_iff.2 (textOf_ne x)
    have hl:=congrArg List.length hb
    rw [List.length_drop,bl_len,List.length_append] at hl
    have hs0:(sepd ([]:List Ins)).length=0:=rfl
    rw [hs0] at hl
    have hie:frm+(textOf x).length=s.size:=by omega
    have hq:q1.length<4000:=by
      have:=hp.1
      rw [hpx,List.length_append,List.length_singleton] at this
      omega
    rw [show k+2 * (s.size+1 - frm)+4=(k+6)+2 * (textOf x).length from by omega,refParse_pass s hz q1 x hx _ frm hb (textOf x).length (k+6) frm (by omega) (Nat.le_refl _) (by omega)]
    obtain ⟨y,ok,ey,_,hy⟩:=refRead_tells (s.extract frm (frm+(textOf x).length)) (by rw [ByteArray.size_extract];omega) (k+4) (by omega)
    obtain ⟨rfl,rfl⟩:=hy x hx (text_fields hp x hmem) (piece s frm _ _ _ hb rfl)
    rw [refParse_last s hz q1 hq (k+4) _ frm y (by omega) hie ey,← hpx,hie]
    exact hv _ (by omega)
  | cons x2 q3 ih =>
    intro q1 x hpx k frm hb hk
    have hmem:x ∈ p:=by rw [hpx];simp
    have hx:=okp_nice hp x hmem
    have hlp:0<(textOf x2).length:=List.length_pos_iff.2 (textOf_ne x2)
    have hl:=congrArg List.length hb
    rw [sepd_cons] at hb hl
    rw [List.length_drop,bl_len,List.length_append,List.length_append,List.length_append] at hl
    have h2:([59,32]:List UInt8).length=2:=rfl
    rw [h2] at hl
    have hq:q1.length<4000:=by
      have:=hp.1
      rw [hpx,List.length_append,List.length_cons] at this
      omega
    obtain ⟨i,hie⟩ : ∃ i,i=frm+(textOf x).length:=⟨_,rfl⟩
    have hlt1:i+1<(bl s).length:=by rw [bl_len];omega
    have hlt0:i<(bl s).length:=by omega
    have hdi:(bl s).drop i=59 :: 32 :: (textOf x2 ++ sepd q3):=by
      rw [hie,← List.drop_drop,hb,List.drop_left]
      simp
    have h59:(bl s)[i]=59:=by
      have:=List.drop_eq_getElem_cons hlt0
      rw [hdi] at this
      injection this with this _
      exact this.symm
    have hdi1:(bl s).drop (i+1)=32 :: (textOf x2 ++ sepd q3):=by rw [← List.drop_drop,hdi];rfl
    have h32:(bl s)[i+1]=32:=by
      have:=List.drop_eq_getElem_cons hlt1
      rw [hdi1] at this
      injection this with this _
      exact this.symm
    have hdi2:(bl s).drop (i+2)=textOf x2 ++ sepd q3:=by rw [show i+2=(i+1)+1 from rfl,← List.drop_drop,hdi1];rfl
    rw [show k+2 * (s.size+1 - frm)+4=((k+2 * (s.size+1 - (i+2))+4)+2+2)+2 * (textOf x).length from by omega,refParse_pass s hz q1 x hx _ frm hb (textOf x).length _ frm (by omega) (Nat.le_refl _) (by omega),← hie]
    obtain ⟨y,ok,ey,_,hy⟩:=refRead_tells (s.extract frm i) (by rw [ByteArray.size_extract];omega) ((k+2 * (s.size+1 - (i+2))+4)+2) (by omega)
    have hpc:=piece s frm _ _ _ hb rfl
    rw [← hie] at hpc
    obtain ⟨rfl,rfl⟩:=hy x hx (text_fields hp x hmem) hpc
    rw [refParse_read s hz q1 hq _ i frm y (by omega) hlt1 h59 h32 ey]
    rw [refParse_skip s hz (q1 ++ [y]) (k+2 * (s.size+1 - (i+2))+4) (i+1) (i+2) hlt1 (by rw [h32];decide)]
    exact ih (q1 ++ [y]) x2 (by rw [hpx];simp) k (i+2) hdi2 hk
theorem refParse_tells (s:ByteArray) (hz:s.size≤4000000) (k:Nat) (hk:22000000≤k) :
    ∃ p v,narcissusref02_Parse.f k s=some (p,v)∧(v=true→OKP p∧bl s=textL p)∧(∀ q,OKP q→bl s=textL q→v=true∧p=q):=by
  unfold narcissusref02_Parse.f
  rw [toL]
  by_cases he:bl s = []
  · rw [if_pos he]
    refine ⟨[],true,rfl,fun _=>⟨⟨by simp,by simp,fun j hj=>by simp at hj⟩,he⟩,fun q hq e=>⟨rfl,?_⟩⟩
    rw [he] at e
    cases q with
    | nil=>rfl
    | cons x q=>exact absurd e.symm textL_ne
  rw [if_neg he]
  obtain ⟨p,v,e,h⟩:=refParse_some s hz (s.size+1) k 0 0 [] (by omega) (by omega) (.inl (by omega)) (by omega) (by simp) (fun x hx=>by simp at hx) (fun _=>trivial)
  rw [show ((0:Nat):Int)=0 from rfl] at e
  refine ⟨p,v,e,h,fun q hq hs=>?_⟩
  cases q with
  | nil=>exact absurd hs he
  | cons x q =>
    have hv : ∀ k,13000000<k→narcissusref02_Parse.l0 k s (x :: q) ((s.size+2:Nat):Int) ((s.size+1:Nat):Int)=some (x :: q,true):=by
      intro k hk
      obtain ⟨k,rfl⟩ : ∃ m,k=m+1:=⟨k - 1,by omega⟩
      rw [narcissusref02_Parse.l0,if_neg (by omega),refValidp_yes (okp_fits hq) (by omega) hq,Option.bind_some,if_pos rfl,refText_yes (by omega) hq,Option.bind_some,toL,toL,bl_bs,hs,beq_self_eq_true]
    obtain ⟨k2,hk2⟩ : ∃ k2,k=k2+2 * (s.size+1 - 0)+4:=⟨k - (2 * (s.size+1 - 0)+4),by omega⟩
    have:=refParse_walk s hz (x :: q) hq hv q [] x rfl k2 0 (by rw [List.drop_zero,hs,textL_cons]) (by omega)
    rw [← hk2] at this
    rw [show ((0:Nat):Int)=0 from rfl] at this
    rw [e] at this
    injection this with this
    injection this with e1 e2
    exact ⟨e2,e1⟩
end Go.Proofs.YtfckjfoalpkpjaaGreatDoor.Plain
end
section
namespace Go.Proofs.YtfckjfoalpkpjaaGreatDoor.Card
open Go.ChangeShapes Go.WideShapes Go.ChangeAt Go.RowKit
open Go.Proofs.YtfckjfoalpkpjaaGreatDoor.C (LaidW pow10_named)
def L7:List (String × DataW Unit):=[("math/bits.deBruijn32tab",Rows.laid_math_bits_deBruijn32tab),("math/bits.deBruijn64tab",Rows.laid_math_bits_deBruijn64tab),("internal/strconv.uint64pow10",Rows.laid_internal_strconv_uint64pow10),("unicode/utf8.acceptRanges",Rows.laid_unicode_utf8_acceptRanges),("strconv.ErrRange",Rows.laid_strconv_ErrRange),("strconv.ErrSyntax",Rows.laid_strconv_ErrSyntax),("unicode/utf8.first",Rows.laid_unicode_utf8_first)]
theorem own:ownKnob Tryz.prog.godebug=none:=by kernel_rfl
theorem star : "*" ++ "errors.errorString" = "*errors.errorString":=by decide
theorem rowErr (u:TypeId) (h:Tryz.prog.typeName? 3 u=some "*errors.errorString"):u=144 :=
  typeName_ptr_named (nm := "errors.errorString") (by rw [star];kernel_rfl) (by kernel_rfl) (by decide) u (by rw [star];exact h)
theorem gRange:Tryz.prog.globalNamed "strconv.ErrRange" = some 5:=by kernel_rfl
theorem gSyntax:Tryz.prog.globalNamed "strconv.ErrSyntax" = some 4:=by kernel_rfl
theorem tRange:(Tryz.prog.globals[5]?).map (·.type)=some 71:=by kernel_rfl
theorem tSyntax:(Tryz.prog.globals[4]?).map (·.type)=some 71:=by kernel_rfl
theorem tPow:(Tryz.prog.globals[1]?).map (·.type)=some 129:=by kernel_rfl
theorem cPow:Tryz.prog.cellsOf 129=20:=by kernel_rfl
theorem cU64:Tryz.prog.cellsOf 112=1:=by kernel_rfl
theorem cErr:Tryz.prog.cellsOf 146=1:=by kernel_rfl
theorem cStr:Tryz.prog.cellsOf 9=1:=by kernel_rfl
theorem plain7 : ∀ W,laidMetH Tryz.prog L7 W=laidMet Tryz.prog L7 W:=fun W=>MakeChecks.laidMetH_plain _ _ _ (by kernel_rfl)
theorem laidW_of {W:World} (hsh:W.ShapedOpen Tryz.prog) (hH:laidMetH Tryz.prog L7 W):LaidW W:=by
  rw [plain7] at hH
  have h3:=laidMet.tail (laidMet.tail hH)
  have hT:Lib.TabIs Tryz.prog W "internal/strconv.uint64pow10" .u64 Lib.pow10Tab :=
    Lib.tabIs_of_head (k:=.u64) (zs:=Lib.pow10Tab) pow10_named tPow Tryz.underlying129 Tryz.underlying112 cU64 cPow h3
  have h5:=laidMet.tail (laidMet.tail h3)
  obtain ⟨a0,_,hv0,_⟩:=laid_sentinel h5 gRange tRange Tryz.underlying71 rowErr Tryz.underlying144 Tryz.underlying146 rfl rfl Tryz.underlying9 cErr cStr
  obtain ⟨a1,_,hv1,_⟩:=laid_sentinel (laidMet.tail h5) gSyntax tSyntax Tryz.underlying71 rowErr Tryz.underlying144 Tryz.underlying146 rfl rfl Tryz.underlying9 cErr cStr
  have hm:=cell_of_shapedOpen_int (P:=Tryz.prog) (g:=0) (t:=3) (k:=.i64) (zero:=#[.int .i64 0]) hsh (of_decide_eq_true (by kernel_rfl)) (by kernel_rfl) rfl (by kernel_rfl) (by kernel_rfl) Tryz.underlying3
  exact ⟨hm,⟨_,_,by simpa using World.var?_cell gSyntax hv1 0⟩,⟨_,_,by simpa using World.var?_cell gRange hv0 0⟩,hT⟩
noncomputable abbrev laidWorld (os:Os):World:=World.laidAll Tryz.prog os L7
set_option maxRecDepth 100000 in
theorem laid_met (os:Os) (args:Array Value):laidMetH Tryz.prog L7 ((laidWorld os).forCall (fun _ _=>0) ⟨#[],args,[]⟩).memory:=by
  rw [plain7]
  exact laidMet_laidAll _ (by kernel_rfl) (by kernel_rfl)
end Go.Proofs.YtfckjfoalpkpjaaGreatDoor.Card
end
