import Derived.Test.YtfckjfoalpkpjaaGreatDoorH5
set_option linter.unusedSimpArgs false
set_option linter.unusedVariables false
namespace Go.Proofs.YtfckjfoalpkpjaaGreatDoor.C
open Go.RowKit Go.Proofs.YtfckjfoalpkpjaaGreatDoorW.PrintWords Go.Proofs.YtfckjfoalpkpjaaGreatDoorW.PrintLast Go.Proofs.YtfckjfoalpkpjaaGreatDoorW.PrintMore
def code_Code.l:Nat→List S42→Int→List UInt8→Option (List UInt8)
  | 0,_,_,_=>none
  | k+1,l0,i,bs=>if i<(l0.length:Int) then (code_number.f (rd_T42 l0 i).f0).bind fun a=>(putOf (rd_T42 l0 i)).bind fun b=>if bs.length+(2+a.size)+b.size≤140737488355000 then code_Code.l k l0 (i+1) (bs ++ ([49,49] ++ a.data.toList) ++ b.data.toList) else none
    else if bs.length+1≤140737488355328 then some (bs ++ [48]) else none
def code_Code.f (k:Nat) (l0:List S42):Option (ByteArray × Int) :=
  (code_Valid.f k l0).bind fun v=>if v=true then (code_Code.l k l0 0 []).bind fun bs=>if 2000000<bs.length then some (⟨#[]⟩,3) else some (⟨bs.toArray⟩,0) else some (⟨#[]⟩,1)
theorem code_Code.l_mono : ∀ k l i bs,LeO (code_Code.l k l i bs) (code_Code.l (k+1) l i bs):=by
  intro k
  induction k with
  | zero=>intro l i bs r h;simp [code_Code.l] at h
  | succ k ih =>
    intro l i bs
    rw [code_Code.l,code_Code.l]
    exact LeO.ite (LeO.bind (LeO.refl _) (fun a=>LeO.bind (LeO.refl _) (fun b=>LeO.ite (ih _ _ _) (LeO.refl _)))) (LeO.refl _)
theorem code_Code.mono : ∀ a0 k,LeO (code_Code.f k a0) (code_Code.f (k+1) a0):=by
  intro a0 k
  unfold code_Code.f
  exact LeO.bind (code_Valid.mono _ _) (fun v=>LeO.ite (LeO.bind (code_Code.l_mono _ _ _ _) (fun _=>LeO.refl _)) (LeO.refl _))
theorem isB_new (w:World) (B:Nat) (hB:B≤w.heap.size):IsB B w.heap.size (Lib.byteCells []) (w.alloc (.cells #[.pointer none,.slice none 0 0] 69)) :=
  .inl ⟨hB,.slice none 0 0,heap_alloc_new w _,⟨by simp [Lib.byteCells],.inl ⟨rfl,rfl⟩⟩,by simp [Value.ownBlock]⟩
theorem enters_put (op:Int) : ∀ args w,(callFunc (fput op) args).run Tryz.prog w = .ok (.enter (fput op) args) w:=by
  intro args w
  unfold fput
  split
  · exact enters_of Tryz.func59 (by kernel_rfl) rfl args w
  split
  · exact enters_of Tryz.func61 (by kernel_rfl) rfl args w
  split
  · exact enters_of Tryz.func63 (by kernel_rfl) rfl args w
  · exact enters_of Tryz.func79 (by kernel_rfl) rfl args w
theorem isB_below {B b:Nat} {bs:List Value} {w w':World} (h:IsB B b bs w) (hw:Below w.heap.size w w'):IsB B b bs w':=by
  have one : ∀ p,Lib.BuilderAtF 69 5 B b p bs w→Lib.BuilderAtF 69 5 B b p bs w':=by
    rintro p ⟨hB,v,hb,hown,hne⟩
    refine ⟨hB,v,(hw.block _ (Array.getElem?_eq_some_iff.1 hb).1).trans hb,⟨hown.1,?_⟩,hne⟩
    rcases hown.2 with hn|⟨g,cap,cur,fz,hv,hbg,hg,rest⟩
    · exact .inl hn
    · exact .inr ⟨g,cap,cur,fz,hv,hbg,(hw.block _ (Array.getElem?_eq_some_iff.1 hg).1).trans hg,rest⟩
  exact h.elim (fun x=>.inl (one _ x)) (fun x=>.inr (one _ x))
set_option maxHeartbeats 2000000 in
set_option maxRecDepth 100000 in
theorem code_Code.calls (k:Nat) (A0:Option Addr) (c0:Nat) (l0:List S42) (r1:ByteArray) (r2:Int) (w:World) (hr0:Kd.C k42 w A0 l0.length l0) (hc0:l0.length≤c0) (h:code_Code.f k l0=some (r1,r2)) :
    Calls Tryz.prog 17 #[.slice A0 l0.length c0] w fun e w'=>e = .returned (.tuple #[.string r1,.int .i64 r2])∧Below w.heap.size w w':=by
  unfold code_Code.f at h
  obtain ⟨vl,hv,h⟩:=Option.bind_eq_some_iff.1 h
  have HR0:=Aside0.mk hr0
  have HC0:=Aside0.mk hc0
  have hlm:l0.length≤9223372036854775807:=hr0.2.1
  clear hr0 hc0;cases vl with
  | false =>
    simp only [Bool.false_eq_true,if_false,Option.some.injEq,Prod.mk.injEq] at h
    obtain ⟨e1,e2⟩:=h
    subst e1 e2
    go_enter Tryz.func17,Tryz.ntmps17
    go_wp2_with (go_at_call 23;refine (code_Valid.calls k _ _ l0 false _ HR0.out HC0.out hv).mono ?_;rintro e w1 ⟨rfl,hb1⟩)
    go_ret2
    exact ⟨rfl,‹Below _ _ _›⟩
  | true =>
    simp only [if_true] at h
    obtain ⟨o,ho,h⟩:=Option.bind_eq_some_iff.1 h
    have HO:=Aside0.mk ho
    have HH:=Aside0.mk h
    have HV:=Aside0.mk hv
    clear ho h hv;go_enter Tryz.func17,Tryz.ntmps17
    go_wp2_with (go_at_call 23;refine (code_Valid.calls k _ _ l0 true _ HR0.out HC0.out HV.out).mono ?_;rintro e w1 ⟨rfl,hb1⟩)
    have HBB:=Aside0.mk ‹Below w.heap.size w w1›
    clear hb1;have HOB:=Aside0.mk (isB_new w1 w.heap.size HBB.out.size)
    have HB0:=Aside0.mk (HBB.out.alloc HBB.out.size (.cells #[.pointer none,.slice none 0 0] 69))
    go_loopg [12] k (fun kq v12 wr => ∃ (i:Nat) (bs:List UInt8),v12 = .int .i64 i∧Aside0 (i≤l0.length)∧Aside0 (code_Code.l kq l0 i bs=some o)∧Aside0 (IsB w.heap.size w1.heap.size (Lib.byteCells bs) wr)∧Aside0 (Below w.heap.size w wr))
    case atStart=>exact ⟨0,[],rfl,⟨Nat.zero_le _⟩,HO,HOB,HB0⟩
    case round =>
      clear HO HOB HB0;obtain ⟨i,bs,rfl,HI,HA,HOB,HB⟩:=hrel
      cases gk with
      | zero=>exact absurd HA.out (by simp [code_Code.l])
      | succ k2 =>
        have H:=HA.out
        clear HA;rw [code_Code.l] at H
        by_cases hlt:(i:Int)<(l0.length:Int)
        · rw [if_pos hlt] at H
          obtain ⟨a,ha,H⟩:=Option.bind_eq_some_iff.1 H
          obtain ⟨b,hb,H⟩:=Option.bind_eq_some_iff.1 H
          by_cases hlim:bs.length+(2+a.size)+b.size≤140737488355000
          · rw [if_pos hlim] at H
            have HN:=Aside0.mk H
            have HA:=Aside0.mk ha
            have HP:=Aside0.mk hb
            have HLM:=Aside0.mk hlim
            clear H ha hb hlim;have hi0:0≤(i:Int):=by omega
            obtain ⟨ad,eA,hx0,hx1,hx2,hx3,hx4⟩:=at_T42 HR0.out (i:Int) hi0 hlt
            subst eA;rw [Int.toNat_natCast] at hx0 hx1 hx2 hx3 hx4
            replace hx0:=(HB.out.cell (World.block_lt_of_cell? w _ hx0)).trans hx0
            replace hx1:=(HB.out.cell (World.block_lt_of_cell? w _ hx1)).trans hx1
            replace hx2:=(HB.out.cell (World.block_lt_of_cell? w _ hx2)).trans hx2
            replace hx3:=(HB.out.cell (World.block_lt_of_cell? w _ hx3)).trans hx3
            replace hx4:=(HB.out.cell (World.block_lt_of_cell? w _ hx4)).trans hx4
            generalize rd_T42 l0 (i:Int)=x at *
            go_wp2_with fail
            refine (code_number.calls _ a _ HA.out).mono ?_
            rintro e w2 ⟨rfl,hb2⟩
            have hX:w2.heap[wr.heap.size]? = some (.cells #[.int .i64 x.f0,.int .i64 x.f1,.int .i64 x.f2,.int .i64 x.f3,.string x.f4] 42 (0,0)):=(hb2.block _ (by simp)).trans (heap_alloc_new wr _)
            have HOB2:=Aside0.mk (isB_below (Lib.IsBuilderF.alloc HOB.out _) hb2)
            have HB2:=Aside0.mk (below_step (below_alloc HB.out _) hb2)
            have hbX:w1.heap.size<wr.heap.size:=by
              rcases HOB.out with h|h<;>exact (Array.getElem?_eq_some_iff.1 h.2.choose_spec.1).1
            have HX:=Aside0.mk hX
            have HLEN:Aside0 ((Lib.byteCells bs).length+((⟨#[49,49]⟩:ByteArray) ++ a).size≤140737488355328):=⟨by
              rw [Lib.byteCells_length,ByteArray.size_append,lit_size];have:=HLM.out;simp only [List.size_toArray,List.length_cons,List.length_nil];omega⟩
            have hcat:(9223372036854775807<2+a.size)=False:=eq_false (by have:=HLM.out;omega)
            clear hX hb2 hx0 hx1 hx2 hx3 hx4;go_wp2_with fail
            refine (writeString_any w.heap.size w1.heap.size (Lib.byteCells bs) ((⟨#[49,49]⟩:ByteArray) ++ a) w2 HOB2.out HLEN.out HB2.out.size).mono ?_
            rintro e w3 ⟨rfl,h3,hb3,hk3⟩
            have hX3:w3.heap[wr.heap.size]? = some (.cells #[.int .i64 x.f0,.int .i64 x.f1,.int .i64 x.f2,.int .i64 x.f3,.string x.f4] 42 (0,0)):=hk3 _ _ HX.out (by intro e;injection e with e;omega) (by intro c fz e;injection e with _ e;revert e;decide)
            have y0:w3.cell? ⟨wr.heap.size,0,none⟩=some (.int .i64 x.f0):=by rw [Lib.cell_of_heap hX3];rfl
            have y1:w3.cell? ⟨wr.heap.size,1,none⟩=some (.int .i64 x.f1):=by rw [Lib.cell_of_heap hX3];rfl
            have y2:w3.cell? ⟨wr.heap.size,2,none⟩=some (.int .i64 x.f2):=by rw [Lib.cell_of_heap hX3];rfl
            have y3:w3.cell? ⟨wr.heap.size,3,none⟩=some (.int .i64 x.f3):=by rw [Lib.cell_of_heap hX3];rfl
            have y4:w3.cell? ⟨wr.heap.size,4,none⟩=some (.string x.f4):=by rw [Lib.cell_of_heap hX3];rfl
            have hXl:wr.heap.size<w3.heap.size:=(Array.getElem?_eq_some_iff.1 hX3).1
            have HOB3:=Aside0.mk (show IsB w.heap.size w1.heap.size _ w3 from .inr h3)
            have HB3:=Aside0.mk (HB2.out.trans hb3)
            have hent:=enters_put x.f0
            have hfld:=run_field_put (fput x.f0) (fget x.f0)
            have HX3:=Aside0.mk hX3
            have HXL:=Aside0.mk hXl
            have HLEN2:Aside0 ((Lib.byteCells bs ++ Lib.strCells ((⟨#[49,49]⟩:ByteArray) ++ a)).length+b.size≤140737488355328):=⟨by
              rw [List.length_append,Lib.byteCells_length,Lib.strCells_length,ByteArray.size_append,lit_size];have:=HLM.out;simp only [List.size_toArray,List.length_cons,List.length_nil];omega⟩
            clear hX3 h3 hb3 hk3 HX hcat;go_wp2_with fail
            go_region_held3 (fun w'=>w'.cell? ⟨wr.heap.size,0,none⟩=some (.int .i64 x.f0)∧w'.cell? ⟨wr.heap.size,1,none⟩=some (.int .i64 x.f1)∧w'.cell? ⟨wr.heap.size,2,none⟩=some (.int .i64 x.f2)∧w'.cell? ⟨wr.heap.size,3,none⟩=some (.int .i64 x.f3)∧w'.cell? ⟨wr.heap.size,4,none⟩=some (.string x.f4))
              (first
                | go_keep
                | (go_split_ands
                   refine ⟨?_,?_,?_,?_,?_⟩
                   · (rw [hb4.cell (by simp;omega)];assumption)
                   · (rw [hb4.cell (by simp;omega)];assumption)
                   · (rw [hb4.cell (by simp;omega)];assumption)
                   · (rw [hb4.cell (by simp;omega)];assumption)
                   · (rw [hb4.cell (by simp;omega)];assumption))
                | (go_split_ands
                   refine ⟨?_,?_,?_,?_,?_⟩
                   · (rw [hb5.cell (by have:=hb4.size;simp at this ⊢;omega)];assumption)
                   · (rw [hb5.cell (by have:=hb4.size;simp at this ⊢;omega)];assumption)
                   · (rw [hb5.cell (by have:=hb4.size;simp at this ⊢;omega)];assumption)
                   · (rw [hb5.cell (by have:=hb4.size;simp at this ⊢;omega)];assumption)
                   · (rw [hb5.cell (by have:=hb4.size;simp at this ⊢;omega)];assumption))
                | (go_split_ands
                   refine ⟨?_,?_,?_,?_,?_⟩
                   · (rw [Lib.cell_of_heap hX6];rfl)
                   · (rw [Lib.cell_of_heap hX6];rfl)
                   · (rw [Lib.cell_of_heap hX6];rfl)
                   · (rw [Lib.cell_of_heap hX6];rfl)
                   · (rw [Lib.cell_of_heap hX6];rfl)))
              (first
                | (go_simp;go_at_call 29;refine (fields_calls x.f0 _).mono ?_;rintro e w4 ⟨rfl,hb4⟩)
                | (go_simp;go_at_fn (fput x.f0);refine (put_calls x b _ HP.out).mono ?_;rintro e w5 ⟨rfl,hb5⟩)
                | (go_simp;go_at_call 41;refine (writeString_any w.heap.size w1.heap.size (Lib.byteCells bs ++ Lib.strCells ((⟨#[49,49]⟩:ByteArray) ++ a)) b _ (isB_below (isB_below (show IsB _ _ _ w3.drew from HOB3.out) hb4) hb5) HLEN2.out (Nat.le_trans HB3.out.size (Nat.le_trans hb4.size hb5.size))).mono ?_;rintro e w6 ⟨rfl,h6,hb6,hk6⟩;have hX6:w6.heap[wr.heap.size]? = some (.cells #[.int .i64 x.f0,.int .i64 x.f1,.int .i64 x.f2,.int .i64 x.f3,.string x.f4] 42 (0,0)):=hk6 _ _ ((hb5.block _ (Nat.lt_of_lt_of_le HXL.out hb4.size)).trans ((hb4.block _ HXL.out).trans HX3.out)) (by intro e;injection e with e;omega) (by intro c fz e;injection e with _ e;revert e;decide)))
            have HOB6:=Aside0.mk h6
            have HB6:=Aside0.mk (below_step (below_step (pw_below_drewN HB3.out 1) hb4) hb5)
            have HB7:Aside0 (Below w.heap.size w w6):=⟨HB6.out.trans hb6⟩
            clear h6 hb6 hk6 hX6 hb4 hb5;go_wp2
            go_roundg k2
            case measure=>omega
            case rel =>
              refine ⟨i+1,bs ++ ([49,49] ++ a.data.toList) ++ b.data.toList,by go_num,⟨by omega⟩,HN,⟨.inr ?_⟩,HB7⟩
              have e:=HOB6.out
              rw [show Lib.byteCells (bs ++ ([49,49] ++ a.data.toList) ++ b.data.toList)=Lib.byteCells bs ++ Lib.strCells ((⟨#[49,49]⟩:ByteArray) ++ a) ++ Lib.strCells b from by simp [Lib.byteCells,Lib.strCells]]
              exact e
          · rw [if_neg hlim] at H
            cases H
        · rw [if_neg hlt] at H
          by_cases hl9:bs.length+1≤140737488355328
          · rw [if_pos hl9] at H
            obtain rfl:=Option.some.inj H
            have t1:decide ((i:Int)<(l0.length:Int))=false:=decide_eq_false hlt
            have t2:decide (i<l0.length)=false:=decide_eq_false (by omega)
            have HL9:Aside0 ((Lib.byteCells bs).length+1≤140737488355328):=⟨by rw [Lib.byteCells_length];exact hl9⟩
            clear H hlt hl9;go_wp2_with fail
            refine (writeByte_any w.heap.size w1.heap.size (Lib.byteCells bs) 48 _ HOB.out HL9.out HB.out.size).mono ?_
            rintro e w3 ⟨rfl,h3,hb3,hk3⟩
            have HOB3:Aside0 (IsB w.heap.size w1.heap.size (Lib.byteCells (bs ++ [48])) w3):=⟨.inr (by rw [show Lib.byteCells (bs ++ [48])=Lib.byteCells bs ++ [.int .u8 48] from by simp [Lib.byteCells]];exact h3)⟩
            have HB3:=Aside0.mk (HB.out.trans hb3)
            clear h3 hb3 hk3;go_wp2_with fail
            refine (Tryz.Builder_Len_f w.heap.size w1.heap.size _ _ HOB3.out).mono ?_
            rintro e w4 ⟨rfl,rfl⟩
            rw [Lib.byteCells_length]
            by_cases hbig:2000000<(bs ++ [48]).length
            · have HH2:=HH.out
              rw [if_pos hbig] at HH2
              simp only [Option.some.injEq,Prod.mk.injEq] at HH2
              obtain ⟨e1,e2⟩:=HH2
              subst e1 e2
              have hb0:decide (2000000<((bs ++ [48]).length:Int))=true:=decide_eq_true (by omega)
              have hb1:decide (2000000<(bs ++ [48]).length)=true:=decide_eq_true hbig
              generalize (bs ++ [48]).length=n at *
              clear hbig;go_wp2
              go_ret2
              exact ⟨rfl,HB3.out⟩
            · have HH2:=HH.out
              rw [if_neg hbig] at HH2
              simp only [Option.some.injEq,Prod.mk.injEq] at HH2
              obtain ⟨e1,e2⟩:=HH2
              subst e1 e2
              have hb0:decide (2000000<((bs ++ [48]).length:Int))=false:=decide_eq_false (by omega)
              have hb1:decide (2000000<(bs ++ [48]).length)=false:=decide_eq_false hbig
              have HS:Aside0 (Calls Tryz.prog 45 #[.pointer (some ⟨w1.heap.size,0,none⟩)] w4 fun e w'=>e = .returned (.string ⟨(bs ++ [48]).toArray⟩)∧Below w.heap.size w4 w'):=⟨(Tryz.Builder_String_any_k w.heap.size w1.heap.size _ _ HOB3.out HB3.out.size).mono fun e w' h=>⟨h.1,h.2.2.1⟩⟩
              clear hbig;obtain ⟨rs,hrs⟩ : ∃ rs:ByteArray,rs=⟨(bs ++ [48]).toArray⟩:=⟨_,rfl⟩
              rw [← hrs] at HS
              have HRS:=Aside0.mk hrs
              clear hrs;generalize (bs ++ [48]).length=n at *
              go_wp2_with fail
              refine HS.out.mono ?_
              rintro e w5 ⟨rfl,hb5⟩
              have HB5:=Aside0.mk (HB3.out.trans hb5)
              clear hb5;go_wp2
              go_ret2
              exact ⟨by have:=HRS.out;subst this;rfl,HB5.out⟩
          · rw [if_neg hl9] at H
            cases H
end Go.Proofs.YtfckjfoalpkpjaaGreatDoor.C
