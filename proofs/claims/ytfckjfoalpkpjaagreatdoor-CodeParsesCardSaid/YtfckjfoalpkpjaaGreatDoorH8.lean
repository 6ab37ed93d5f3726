import Derived.Test.YtfckjfoalpkpjaaGreatDoorH6
import Derived.Test.YtfckjfoalpkpjaaGreatDoorH0
import Derived.Test.YtfckjfoalpkpjaaGreatDoorF51
set_option linter.unusedSimpArgs false
set_option linter.unusedVariables false
namespace Go.Proofs.YtfckjfoalpkpjaaGreatDoor.C
open Go.RowKit Go.Proofs.YtfckjfoalpkpjaaGreatDoorW.PrintWords Go.Proofs.YtfckjfoalpkpjaaGreatDoorW.PrintLast Go.Proofs.YtfckjfoalpkpjaaGreatDoorW.PrintMore
theorem restart_ {P:Program} {md:Region.Mode} {ops:Array Oper} {Q:Exit→Act→World→Prop} {S S':World→Prop} (hSS : ∀ w,S' w→S w) : ∀ (fuel:Nat) (l:Array Bool) (a:Act) (w:World),S' w→(S' w→wpAnyLast P md ops Q S' [] fuel l a w)→wpAnyLast P md ops Q S [] fuel l a w:=by
  have go : ∀ (fuel:Nat) (l:Array Bool) (a:Act) (w:World),S' w→wpAnyLast P md ops Q S' [] fuel l a w→wpAnyLast P md ops Q S [] fuel l a w:=by
    intro fuel
    induction fuel with
    | zero=>intro l a w _ h;exact h
    | succ n ih =>
      intro l a w hw h
      exact ⟨h.1,fun i hi=>wpOp_mono (fun a' w' h'=>⟨fun _ _=>hSS _ (h'.1 (by simp) hw),ih _ a' w' (h'.1 (by simp) hw) h'.2⟩) (h.2 i hi)⟩
  exact fun fuel l a w hw h=>go fuel l a w hw (h hw)
def opNames:List ByteArray:=[(⟨#[115,101,116]⟩:ByteArray),(⟨#[109,111,118,101]⟩:ByteArray),(⟨#[99,111,110,115]⟩:ByteArray),(⟨#[104,101,97,100]⟩:ByteArray),(⟨#[116,97,105,108]⟩:ByteArray),(⟨#[106,117,109,112]⟩:ByteArray)]
theorem opNames_size (i:Int) (h0:0≤i) (h6:i<6):(rdOf ByteArray.empty opNames i).size≤4:=by
  obtain ⟨n,rfl⟩:=Int.eq_ofNat_of_zero_le h0
  have:n<6:=by omega
  rcases (by omega:n=0 ∨ n=1 ∨ n=2 ∨ n=3 ∨ n=4 ∨ n=5) with h|h|h|h|h|h<;>subst h<;>decide
def textHead (x:S42):Option ByteArray :=
  if 0≤x.f0∧x.f0<6 then (strconv_Itoa.f x.f1).bind fun a=>if a.size≤1000 then some ((rdOf ByteArray.empty opNames x.f0 ++ (⟨#[32]⟩:ByteArray)) ++ a) else none else none
def textTail (x:S42):Option ByteArray :=
  if x.f0=0 then (if x.f4.size≤140737488355000 then some ((⟨#[32]⟩:ByteArray) ++ x.f4) else none)
  else if x.f0=2 then (strconv_Itoa.f x.f2).bind fun b=>(strconv_Itoa.f x.f3).bind fun c=>if b.size+c.size≤1000 then some ((((⟨#[32]⟩:ByteArray) ++ b) ++ (⟨#[32]⟩:ByteArray)) ++ c) else none
  else (strconv_Itoa.f x.f2).bind fun b=>if b.size≤1000 then some ((⟨#[32]⟩:ByteArray) ++ b) else none
def code_Text.l:Nat→List S42→Int→List UInt8→Option (List UInt8)
  | 0,_,_,_=>none
  | k+1,l0,i,bs=>if i<(l0.length:Int) then (textHead (rd_T42 l0 i)).bind fun a=>(textTail (rd_T42 l0 i)).bind fun b=>if bs.length+2+a.size+b.size≤140737488355000 then code_Text.l k l0 (i+1) ((if 0<i then bs ++ [59,32] else bs) ++ a.data.toList ++ b.data.toList) else none
    else some bs
def code_Text.f (k:Nat) (l0:List S42):Option (ByteArray × Int) :=
  (code_Valid.f k l0).bind fun v=>if v=true then (code_Text.l k l0 0 []).bind fun bs=>if 4000000<bs.length then some (⟨#[]⟩,3) else some (⟨bs.toArray⟩,0) else some (⟨#[]⟩,1)
theorem code_Text.l_mono : ∀ k l0 i bs,LeO (code_Text.l k l0 i bs) (code_Text.l (k+1) l0 i bs):=by
  intro k
  induction k with
  | zero=>intro l i bs r h;simp [code_Text.l] at h
  | succ k ih =>
    intro l i bs
    rw [code_Text.l,code_Text.l]
    exact LeO.ite (LeO.bind (LeO.refl _) (fun a=>LeO.bind (LeO.refl _) (fun b=>LeO.ite (ih _ _ _) (LeO.refl _)))) (LeO.refl _)
theorem code_Text.mono : ∀ a0 k,LeO (code_Text.f k a0) (code_Text.f (k+1) a0):=by
  intro a0 k
  unfold code_Text.f
  exact LeO.bind (code_Valid.mono _ _) (fun v=>LeO.ite (LeO.bind (code_Text.l_mono _ _ _ _) (fun _=>LeO.refl _)) (LeO.refl _))
set_option maxHeartbeats 4000000 in
set_option maxRecDepth 100000 in
theorem code_Text.calls (k:Nat) (A0:Option Addr) (c0:Nat) (l0:List S42) (r1:ByteArray) (r2:Int) (w:World) (hr0:Kd.C k42 w A0 l0.length l0) (hc0:l0.length≤c0) (hL:LaidW w) (h:code_Text.f k l0=some (r1,r2)) :
    Calls Tryz.prog 21 #[.slice A0 l0.length c0] w fun e w'=>e = .returned (.tuple #[.string r1,.int .i64 r2])∧Below w.heap.size w w':=by
  unfold code_Text.f at h
  obtain ⟨vl,hv,h⟩:=Option.bind_eq_some_iff.1 h
  have HLW:=Aside0.mk hL
  have HR0:=Aside0.mk hr0
  have HC0:=Aside0.mk hc0
  have hlm:l0.length≤9223372036854775807:=hr0.2.1
  clear hr0 hc0 hL;cases vl with
  | false =>
    simp only [Bool.false_eq_true,if_false,Option.some.injEq,Prod.mk.injEq] at h
    obtain ⟨e1,e2⟩:=h
    subst e1 e2
    go_enter Tryz.func21,Tryz.ntmps21
    go_wp2_with (go_at_call 23;refine (code_Valid.calls k _ _ l0 false _ HR0.out HC0.out hv).mono ?_;rintro e w1 ⟨rfl,hb1⟩)
    go_ret2
    exact ⟨rfl,‹Below _ _ _›⟩
  | true =>
    simp only [if_true] at h
    obtain ⟨o,ho,h⟩:=Option.bind_eq_some_iff.1 h
    have HO:=Aside0.mk ho
    have HH:=Aside0.mk h
    have HV:=Aside0.mk hv
    clear ho h hv;go_enter Tryz.func21,Tryz.ntmps21
    go_wp2_with (go_at_call 23;refine (code_Valid.calls k _ _ l0 true _ HR0.out HC0.out HV.out).mono ?_;rintro e w1 ⟨rfl,hb1⟩)
    have HBB:=Aside0.mk ‹Below w.heap.size w w1›
    clear hb1;have HOB:=Aside0.mk (isB_new w1 w.heap.size HBB.out.size)
    have HB0:=Aside0.mk (HBB.out.alloc HBB.out.size (.cells #[.pointer none,.slice none 0 0] 69))
    go_loopg [12] k (fun kq v12 wr => ∃ (i:Nat) (bs:List UInt8),v12 = .int .i64 i∧Aside0 (i≤l0.length)∧Aside0 (code_Text.l kq l0 i bs=some o)∧Aside0 (IsB w.heap.size w1.heap.size (Lib.byteCells bs) wr)∧Aside0 (Below w.heap.size w wr))
    case atStart=>exact ⟨0,[],rfl,⟨Nat.zero_le _⟩,HO,HOB,HB0⟩
    case round =>
      clear HO HOB HB0;obtain ⟨i,bs,rfl,HI,HA,HOB,HB⟩:=hrel
      cases gk with
      | zero=>exact absurd HA.out (by simp [code_Text.l])
      | succ k2 =>
        have H:=HA.out
        clear HA;rw [code_Text.l] at H
        by_cases hlt:(i:Int)<(l0.length:Int)
        · rw [if_pos hlt] at H
          obtain ⟨a,ha,H⟩:=Option.bind_eq_some_iff.1 H
          obtain ⟨b,hb,H⟩:=Option.bind_eq_some_iff.1 H
          by_cases hlim:bs.length+2+a.size+b.size≤140737488355000
          · rw [if_pos hlim] at H
            have HN:=Aside0.mk H
            have HA:=Aside0.mk ha
            have HT:=Aside0.mk hb
            have HLM:=Aside0.mk hlim
            clear H ha hb hlim;have hi0:0≤(i:Int):=by omega
            obtain ⟨ad,eA,hx0,hx1,hx2,hx3,hx4⟩:=at_T42 HR0.out (i:Int) hi0 hlt
            subst eA;rw [Int.toNat_natCast] at hx0 hx1 hx2 hx3 hx4
            replace hx0:=(HB.out.cell (World.block_lt_of_cell? w _ hx0)).trans hx0
            replace hx1:=(HB.out.cell (World.block_lt_of_cell? w _ hx1)).trans hx1
            replace hx2:=(HB.out.cell (World.block_lt_of_cell? w _ hx2)).trans hx2
            replace hx3:=(HB.out.cell (World.block_lt_of_cell? w _ hx3)).trans hx3
            replace hx4:=(HB.out.cell (World.block_lt_of_cell? w _ hx4)).trans hx4
            generalize rd_T42 l0 (i:Int)=x at *
            have HT2:=Aside0.mk (show x.f0=x.f0 from rfl)
            obtain ⟨bs2,hbs2⟩ : ∃ bs2:List UInt8,bs2=(if 0<(i:Int) then bs ++ [59,32] else bs):=⟨_,rfl⟩
            rw [← hbs2] at HN
            have hbX:w1.heap.size<wr.heap.size:=by
              rcases HOB.out with h|h<;>exact (Array.getElem?_eq_some_iff.1 h.2.choose_spec.1).1
            have HB0:=Aside0.mk (below_alloc HB.out (.cells #[.int .i64 x.f0,.int .i64 x.f1,.int .i64 x.f2,.int .i64 x.f3,.string x.f4] 42))
            have HOB0:=Aside0.mk (Lib.IsBuilderF.alloc HOB.out (.cells #[.int .i64 x.f0,.int .i64 x.f1,.int .i64 x.f2,.int .i64 x.f3,.string x.f4] 42))
            have HX0:=Aside0.mk (heap_alloc_new wr (.cells #[.int .i64 x.f0,.int .i64 x.f1,.int .i64 x.f2,.int .i64 x.f3,.string x.f4] 42))
            have HLEN0:Aside0 ((Lib.byteCells bs).length+(⟨#[59,32]⟩:ByteArray).size≤140737488355328):=⟨by rw [Lib.byteCells_length,lit_size];have:=HLM.out;simp only [List.size_toArray,List.length_cons,List.length_nil];omega⟩
            have HBL:Aside0 (bs2.length≤bs.length+2):=⟨by rw [hbs2];split<;>simp⟩
            have ha2:=HA.out
            unfold textHead at ha2
            by_cases hop:0≤x.f0∧x.f0<6
            case neg=>rw [if_neg hop] at ha2;cases ha2
            rw [if_pos hop] at ha2
            obtain ⟨a1,ha1,ha2⟩:=Option.bind_eq_some_iff.1 ha2
            by_cases hsz:a1.size≤1000
            case neg=>rw [if_neg hsz] at ha2;cases ha2
            rw [if_pos hsz] at ha2
            obtain rfl:=Option.some.inj ha2
            obtain ⟨hop0,hop6⟩:=hop
            have HA1:=Aside0.mk ha1
            have HSZ:=Aside0.mk hsz
            clear ha1 hsz ha2 HA HOB HB;by_cases hpos:0<i
            case' pos =>
              have hc0:decide (0<(i:Int))=true:=decide_eq_true (by omega)
              have hc1:decide (0<i)=true:=decide_eq_true hpos
              rw [if_pos (by omega)] at hbs2
              have HBS:=Aside0.mk hbs2
              clear hpos hbs2;go_wp2_with fail
              refine (writeString_any w.heap.size w1.heap.size (Lib.byteCells bs) (⟨#[59,32]⟩:ByteArray) _ HOB0.out HLEN0.out HB0.out.size).mono ?_
              rintro e w3 ⟨rfl,h3,hb3,hk3⟩
              have HX3:Aside0 (w3.heap[wr.heap.size]? = some (.cells #[.int .i64 x.f0,.int .i64 x.f1,.int .i64 x.f2,.int .i64 x.f3,.string x.f4] 42 (0,0))):=⟨hk3 _ _ HX0.out (by intro e;injection e with e;omega) (by intro c fz e;injection e with _ e;revert e;decide)⟩
              have HB3:=Aside0.mk (HB0.out.trans hb3)
              have HOB3:Aside0 (IsB w.heap.size w1.heap.size (Lib.byteCells bs2) w3):=⟨by rw [HBS.out];rw [show Lib.byteCells (bs ++ [59,32])=Lib.byteCells bs ++ Lib.strCells (⟨#[59,32]⟩:ByteArray) from by simp [Lib.byteCells,Lib.strCells]];exact .inr h3⟩
              clear h3 hb3 hk3 hx0 hx1 hx2 hx3 hx4 HLEN0 HX0 HB0 HOB0 HBS;go_wp2_with fail
            case' neg =>
              have hc0:decide (0<(i:Int))=false:=decide_eq_false (by omega)
              have hc1:decide (0<i)=false:=decide_eq_false hpos
              rw [if_neg (by omega)] at hbs2
              have HBS:=Aside0.mk hbs2
              clear hpos hbs2;go_wp2_with fail
              obtain ⟨w3,hw3⟩ : ∃ w3,w3=wr.alloc (.cells #[.int .i64 x.f0,.int .i64 x.f1,.int .i64 x.f2,.int .i64 x.f3,.string x.f4] 42):=⟨_,rfl⟩
              rw [← hw3] at HX0 HOB0 HB0 ⊢
              have HX3:=HX0
              have HB3:=HB0
              have HOB3:Aside0 (IsB w.heap.size w1.heap.size (Lib.byteCells bs2) w3):=⟨by rw [HBS.out];exact HOB0.out⟩
              clear hx0 hx1 hx2 hx3 hx4 HLEN0 HX0 HB0 HOB0 HBS hw3
            all_goals
              have y0:w3.cell? ⟨wr.heap.size,0,none⟩=some (.int .i64 x.f0):=by rw [Lib.cell_of_heap HX3.out];rfl
              have y1:w3.cell? ⟨wr.heap.size,1,none⟩=some (.int .i64 x.f1):=by rw [Lib.cell_of_heap HX3.out];rfl
              have HXL:=Aside0.mk (Array.getElem?_eq_some_iff.1 HX3.out).1
              have b60:decide ((0:Int)≤x.f0)=true:=decide_eq_true hop0
              have b62:(x.f0<((opNames.length:Nat):Int))=True:=eq_true (by rw [show opNames.length=6 from rfl];omega)
              have b61:decide (x.f0<6)=true:=decide_eq_true hop6
              have HNM:=Aside0.mk (opNames_size x.f0 hop0 hop6)
              obtain ⟨nm,hnm⟩ : ∃ nm,nm=rdOf ByteArray.empty opNames x.f0:=⟨_,rfl⟩
              rw [← hnm] at HN HLM HNM
              have HLEN1:Aside0 ((Lib.byteCells bs2).length+((nm ++ (⟨#[32]⟩:ByteArray)) ++ a1).size≤140737488355328):=⟨by rw [Lib.byteCells_length];have:=HLM.out;have:=HBL.out;omega⟩
              have hcat1:(9223372036854775807<nm.size+1)=False:=eq_false (by have:=HNM.out;omega)
              have hcat2:(9223372036854775807<nm.size+1+a1.size)=False:=eq_false (by have:=HNM.out;have:=HSZ.out;omega)
              have hl1:(⟨#[32]⟩:ByteArray).size=1:=by rw [lit_size];rfl
              have HNMQ:=Aside0.mk hnm
              clear hnm;refine start_ (n:=11) (S:=(fun w'=>w'.cell? ⟨wr.heap.size,0,none⟩=some (.int .i64 x.f0)∧w'.cell? ⟨wr.heap.size,1,none⟩=some (.int .i64 x.f1))) (ds:=[]) #[false,false,false,false,false,false,false,false,false,false,false] (by kernel_rfl) rfl rfl ⟨y0,y1⟩ (fun hHeld=>?_)
              have HX4:Aside0 (w3.drew.heap[wr.heap.size]? = some (.cells #[.int .i64 x.f0,.int .i64 x.f1,.int .i64 x.f2,.int .i64 x.f3,.string x.f4] 42 (0,0))):=⟨HX3.out⟩
              have HB4:=Aside0.mk (pw_below_drewN HB3.out 1)
              have HOB4:Aside0 (IsB w.heap.size w1.heap.size (Lib.byteCells bs2) w3.drew):=⟨HOB3.out⟩
              have HL4:=Aside0.mk (HLW.out.below (HB4.out.mono (Nat.le_refl _)))
              clear HX3 HB3 HOB3 y0 y1;change Aside0 (Below w.heap.size w w3.drew) at HB4
              change Aside0 (LaidW w3.drew) at HL4
              generalize w3.drew=w4 at *
              refine pure_ (i:=1) (N:=some 21) (v:=?_) (a':=?_) #[false,true,false,false,false,false,false,false,false,false,false] rfl rfl (by kernel_rfl) (fun _ _ _ h=>h) (Or.inl ⟨by rfl,?_⟩) ?_ ?_
              rotate_left
              · intro w'
                go_simp
                with_reducible rfl
              rotate_left
              · simp only [Act.put,List.setIfInBounds_toArray,List.set_cons_zero,List.set_cons_succ,i64_w,i32_w]
                rfl
              refine take_ (i:=2) (N:=some 22) (v:=?_) (a':=?_) #[false,true,true,false,false,false,false,false,false,false,false] rfl rfl (by kernel_rfl) (fun _ _ _ h=>h) (Or.inl ⟨by rfl,?_⟩) hHeld ?_ ?_
              rotate_left
              · rintro w' ⟨s0,s1⟩
                go_simp
                with_reducible rfl
              rotate_left
              · simp only [Act.put,List.setIfInBounds_toArray,List.set_cons_zero,List.set_cons_succ,i64_w,i32_w]
                rfl
              refine pure_ (i:=6) (N:=some 26) (v:=?_) (a':=?_) #[false,true,true,false,false,false,true,false,false,false,false] rfl rfl (by kernel_rfl) (fun _ _ _ h=>h) (Or.inl ⟨by rfl,?_⟩) ?_ ?_
              rotate_left
              · intro w'
                go_simp
                with_reducible rfl
              rotate_left
              · simp only [Act.put,List.setIfInBounds_toArray,List.set_cons_zero,List.set_cons_succ,i64_w,i32_w]
                rfl
              refine take_ (i:=7) (N:=some 27) (v:=?_) (a':=?_) #[false,true,true,false,false,false,true,true,false,false,false] rfl rfl (by kernel_rfl) (fun _ _ _ h=>h) (Or.inl ⟨by rfl,?_⟩) hHeld ?_ ?_
              rotate_left
              · rintro w' ⟨s0,s1⟩
                go_simp
                with_reducible rfl
              rotate_left
              · simp only [Act.put,List.setIfInBounds_toArray,List.set_cons_zero,List.set_cons_succ,i64_w,i32_w]
                rfl
              refine one_ (i:=0) (N:=some 20) #[true,true,true,false,false,false,true,true,false,false,false] rfl rfl (by kernel_rfl) (by decide) (fun K hK=>?_)
              refine goes_ Tryz.func51 (by kernel_rfl) rfl #[] (by rfl) rfl rfl (by (try simp only [List.map_toArray,List.map_cons,List.map_nil]);first|done|rfl) ?_
              with_reducible refine (code_names.calls opNames _ rfl).mono ?_
              rintro e w5 ⟨v5,rfl,hr5,hb5⟩
              refine ⟨_,rfl,?_⟩
              obtain ⟨g5,c5,rfl,hg5,hlt5,cs5,hk5⟩:=Kd.R_form hr5 (by decide)
              obtain ⟨_,hc5,hC5⟩:=Kd.R_reads' hr5
              obtain ⟨ad5,eA5,hz5⟩:=Kd.at_string hC5 x.f0 hop0 hop6
              obtain rfl:=Option.some.inj eA5
              have HK5:=Aside0.mk hk5
              rw [← HNMQ.out] at hz5
              replace hz5:w5.cell? ⟨g5,x.f0.toNat,none⟩=some (.string nm):=by rw [show (⟨g5,x.f0.toNat,none⟩:Addr)=Addr.add ⟨g5,0,none⟩ x.f0.toNat from by unfold Addr.add;first|rfl|(split<;>simp_all)];exact hz5
              have hne5:w1.heap.size<g5:=by have:=(Array.getElem?_eq_some_iff.1 HX4.out).1;omega
              have HX5:=Aside0.mk ((hb5.block _ (Array.getElem?_eq_some_iff.1 HX4.out).1).trans HX4.out)
              have HB5:=Aside0.mk (below_step HB4.out hb5)
              have HOB5:=Aside0.mk (isB_below HOB4.out hb5)
              have HL5:=Aside0.mk (HL4.out.below hb5)
              have z0:w5.cell? ⟨wr.heap.size,0,none⟩=some (.int .i64 x.f0):=by rw [Lib.cell_of_heap HX5.out];rfl
              have z1:w5.cell? ⟨wr.heap.size,1,none⟩=some (.int .i64 x.f1):=by rw [Lib.cell_of_heap HX5.out];rfl
              clear HX4 HB4 HOB4 HL4 hr5 hb5 hC5 hc5 hk5 hg5;refine hK.out _ _ ⟨z0,z1⟩ (fun hHeld=>?_)
              clear hK K;refine norm_ (a':=?_) ?_ ?_
              rotate_left
              · show Act.put _ (some 20) _=_
                simp only [Act.put,List.setIfInBounds_toArray,List.set_cons_zero,List.set_cons_succ,i64_w,i32_w]
                rfl
              clear hHeld;refine restart_ (S':=fun w'=>w'.cell? ⟨wr.heap.size,0,none⟩=some (.int .i64 x.f0)∧w'.cell? ⟨wr.heap.size,1,none⟩=some (.int .i64 x.f1)∧w'.cell? ⟨g5,x.f0.toNat,none⟩=some (.string nm)) (fun _ h=>⟨h.1,h.2.1⟩) _ _ _ _ ⟨z0,z1,hz5⟩ (fun hHeld=>?_)
              refine pure_ (i:=3) (N:=some 23) (v:=?_) (a':=?_) #[true,true,true,true,false,false,true,true,false,false,false] rfl rfl (by kernel_rfl) (fun _ _ _ h=>h) (Or.inl ⟨by rfl,?_⟩) ?_ ?_
              rotate_left
              · intro w'
                go_simp
                with_reducible rfl
              rotate_left
              · simp only [Act.put,List.setIfInBounds_toArray,List.set_cons_zero,List.set_cons_succ,i64_w,i32_w]
                rfl
              refine take_ (i:=4) (N:=some 24) (v:=?_) (a':=?_) #[true,true,true,true,true,false,true,true,false,false,false] rfl rfl (by kernel_rfl) (fun _ _ _ h=>h) (Or.inl ⟨by rfl,?_⟩) hHeld ?_ ?_
              rotate_left
              · rintro w' ⟨s0,s1,s2⟩
                go_simp
                with_reducible rfl
              rotate_left
              · simp only [Act.put,List.setIfInBounds_toArray,List.set_cons_zero,List.set_cons_succ,i64_w,i32_w]
                rfl
              refine pure_ (i:=5) (N:=some 25) (v:=?_) (a':=?_) #[true,true,true,true,true,true,true,true,false,false,false] rfl rfl (by kernel_rfl) (fun _ _ _ h=>h) (Or.inl ⟨by rfl,?_⟩) ?_ ?_
              rotate_left
              · intro w'
                go_simp
                with_reducible rfl
              rotate_left
              · simp only [Act.put,List.setIfInBounds_toArray,List.set_cons_zero,List.set_cons_succ,i64_w,i32_w]
                rfl
              refine one_ (i:=8) (N:=some 28) #[true,true,true,true,true,true,true,true,true,false,false] rfl rfl (by kernel_rfl) (by decide) (fun K hK=>?_)
              refine goes_ Tryz.func52 (by kernel_rfl) rfl #[.int .i64 x.f1] (by rfl) rfl rfl (by (try simp only [List.map_toArray,List.map_cons,List.map_nil]);first|done|rfl) ?_
              with_reducible refine (strconv_Itoa.calls x.f1 a1 _ HL5.out HA1.out).mono ?_
              rintro e w6 ⟨rfl,hb6⟩
              refine ⟨_,rfl,?_⟩
              have HX6:=Aside0.mk ((hb6.block _ (Array.getElem?_eq_some_iff.1 HX5.out).1).trans HX5.out)
              have HB6:=Aside0.mk (below_step HB5.out hb6)
              have HOB6:=Aside0.mk (isB_below HOB5.out hb6)
              have HK6:=Aside0.mk ((hb6.block _ hlt5).trans HK5.out)
              have hz6:=(hb6.cell (World.block_lt_of_cell? _ _ hz5)).trans hz5
              have z0:w6.cell? ⟨wr.heap.size,0,none⟩=some (.int .i64 x.f0):=by rw [Lib.cell_of_heap HX6.out];rfl
              have z1:w6.cell? ⟨wr.heap.size,1,none⟩=some (.int .i64 x.f1):=by rw [Lib.cell_of_heap HX6.out];rfl
              clear HX5 HB5 HOB5 hb6;refine hK.out _ _ ⟨z0,z1,hz6⟩ (fun hHeld=>?_)
              clear hK K;refine norm_ (a':=?_) ?_ ?_
              rotate_left
              · show Act.put _ (some 28) _=_
                simp only [Act.put,List.setIfInBounds_toArray,List.set_cons_zero,List.set_cons_succ,i64_w,i32_w]
                rfl
              refine pure_ (i:=9) (N:=some 29) (v:=?_) (a':=?_) #[true,true,true,true,true,true,true,true,true,true,false] rfl rfl (by kernel_rfl) (fun _ _ _ h=>h) (Or.inl ⟨by rfl,?_⟩) ?_ ?_
              rotate_left
              · intro w'
                go_simp
                with_reducible rfl
              rotate_left
              · simp only [Act.put,List.setIfInBounds_toArray,List.set_cons_zero,List.set_cons_succ,i64_w,i32_w]
                rfl
              refine one_ (i:=10) (N:=some 30) #[true,true,true,true,true,true,true,true,true,true,true] rfl rfl (by kernel_rfl) (by decide) (fun K hK=>?_)
              refine goes_ Tryz.func41 (by kernel_rfl) rfl #[.pointer (some ⟨w1.heap.size,0,none⟩),.string ((nm ++ (⟨#[32]⟩:ByteArray)) ++ a1)] (by rfl) rfl rfl (by (try simp only [List.map_toArray,List.map_cons,List.map_nil]);first|done|rfl) ?_
              with_reducible refine (writeString_any w.heap.size w1.heap.size (Lib.byteCells bs2) _ _ HOB6.out HLEN1.out HB6.out.size).mono ?_
              rintro e w7 ⟨rfl,h7,hb7,hk7⟩
              refine ⟨_,rfl,?_⟩
              have HX7:Aside0 (w7.heap[wr.heap.size]? = some (.cells #[.int .i64 x.f0,.int .i64 x.f1,.int .i64 x.f2,.int .i64 x.f3,.string x.f4] 42 (0,0))):=⟨hk7 _ _ HX6.out (by intro e;injection e with e;omega) (by intro c fz e;injection e with _ e;revert e;decide)⟩
              have HK7:Aside0 (w7.heap[g5]? = some (.cells cs5 9 (0,0))):=⟨hk7 _ _ HK6.out (by intro e;injection e with e;omega) (by intro c fz e;injection e with _ e;revert e;decide)⟩
              have HB7:=Aside0.mk (HB6.out.trans hb7)
              have HOB7:=Aside0.mk (show IsB w.heap.size w1.heap.size _ w7 from .inr h7)
              have hz7:w7.cell? ⟨g5,x.f0.toNat,none⟩=some (.string nm):=(Lib.cell_of_heap HK7.out _).trans ((Lib.cell_of_heap HK6.out _).symm.trans hz6)
              have z0:w7.cell? ⟨wr.heap.size,0,none⟩=some (.int .i64 x.f0):=by rw [Lib.cell_of_heap HX7.out];rfl
              have z1:w7.cell? ⟨wr.heap.size,1,none⟩=some (.int .i64 x.f1):=by rw [Lib.cell_of_heap HX7.out];rfl
              clear HX6 HB6 HOB6 hb7 h7 hk7;refine hK.out _ _ ⟨z0,z1,hz7⟩ (fun hHeld=>?_)
              clear hK K;refine norm_ (a':=?_) ?_ ?_
              rotate_left
              · show Act.put _ (some 30) _=_
                simp only [Act.put,List.setIfInBounds_toArray,List.set_cons_zero,List.set_cons_succ,i64_w,i32_w]
                rfl
              refine done_ (by kernel_rfl) ?_
              have HT3:=HT.out
              unfold textTail at HT3
              have y2:w7.cell? ⟨wr.heap.size,2,none⟩=some (.int .i64 x.f2):=by rw [Lib.cell_of_heap HX7.out];rfl
              have y3:w7.cell? ⟨wr.heap.size,3,none⟩=some (.int .i64 x.f3):=by rw [Lib.cell_of_heap HX7.out];rfl
              have y4:w7.cell? ⟨wr.heap.size,4,none⟩=some (.string x.f4):=by rw [Lib.cell_of_heap HX7.out];rfl
              have HL7:Aside0 (LaidW w7):=⟨HLW.out.below HB7.out⟩
              have HLEN7:Aside0 ((Lib.byteCells bs2 ++ Lib.strCells ((nm ++ (⟨#[32]⟩:ByteArray)) ++ a1)).length+b.size≤140737488355328):=⟨by rw [List.length_append,Lib.byteCells_length,Lib.strCells_length];have:=HLM.out;have:=HBL.out;omega⟩
              have HN7:Aside0 (∀ W:World,IsB w.heap.size w1.heap.size (Lib.byteCells bs2 ++ Lib.strCells ((nm ++ (⟨#[32]⟩:ByteArray)) ++ a1) ++ Lib.strCells b) W→IsB w.heap.size w1.heap.size (Lib.byteCells (bs2 ++ ((nm ++ (⟨#[32]⟩:ByteArray)) ++ a1).data.toList ++ b.data.toList)) W):=⟨fun W e=>by rw [show Lib.byteCells (bs2 ++ ((nm ++ (⟨#[32]⟩:ByteArray)) ++ a1).data.toList ++ b.data.toList)=Lib.byteCells bs2 ++ Lib.strCells ((nm ++ (⟨#[32]⟩:ByteArray)) ++ a1) ++ Lib.strCells b from by simp [Lib.byteCells,Lib.strCells]];exact e⟩
              clear hHeld HLEN1 hcat1 hcat2 hz5 hz6 hz7 HK5 HK6 HK7 z0 z1;have z0:w7.cell? ⟨wr.heap.size,0,none⟩=some (.int .i64 x.f0):=by rw [Lib.cell_of_heap HX7.out];rfl
              generalize hA:((nm ++ (⟨#[32]⟩:ByteArray)) ++ a1)=a at HN HLEN7 HN7 HOB7 HLM
              clear hA;by_cases h0:x.f0=0
              · rw [if_pos h0] at HT3
                by_cases hs4:x.f4.size≤140737488355000
                case neg=>rw [if_neg hs4] at HT3;cases HT3
                rw [if_pos hs4] at HT3
                have HT4:=Aside0.mk (Option.some.inj HT3)
                have t0:(x.f0 == 0)=true:=beq_iff_eq.2 h0
                have hcat:(9223372036854775807<1+x.f4.size)=False:=eq_false (by omega)
                clear HT3 hs4 h0;go_wp2_with fail
                refine (writeString_any w.heap.size w1.heap.size _ ((⟨#[32]⟩:ByteArray) ++ x.f4) w7 HOB7.out (by rw [HT4.out];exact HLEN7.out) HB7.out.size).mono ?_
                rintro e w8 ⟨rfl,h8,hb8,_⟩
                rw [HT4.out] at h8
                have HOB8:=Aside0.mk (HN7.out w8 (.inr h8))
                have HB8:=Aside0.mk (HB7.out.trans hb8)
                clear h8 hb8;go_wp2
                go_roundg k2
                case measure=>omega
                case rel=>exact ⟨i+1,_,by go_num,⟨by omega⟩,HN,HOB8,HB8⟩
              · rw [if_neg h0] at HT3
                have t0:(x.f0 == 0)=false:=beq_eq_false_iff_ne.2 h0
                by_cases h2:x.f0=2
                · rw [if_pos h2] at HT3
                  have t2:(x.f0 == 2)=true:=beq_iff_eq.2 h2
                  obtain ⟨b1,hb1,HT3⟩:=Option.bind_eq_some_iff.1 HT3
                  obtain ⟨b2,hb2,HT3⟩:=Option.bind_eq_some_iff.1 HT3
                  by_cases hs4:b1.size+b2.size≤1000
                  case neg=>rw [if_neg hs4] at HT3;cases HT3
                  rw [if_pos hs4] at HT3
                  have HT4:=Aside0.mk (Option.some.inj HT3)
                  have HI1:=Aside0.mk hb1
                  have HI2:=Aside0.mk hb2
                  have hcat1:(9223372036854775807<1+b1.size)=False:=eq_false (by omega)
                  have hcat2:(9223372036854775807<1+b1.size+1)=False:=eq_false (by omega)
                  have hcat3:(9223372036854775807<1+b1.size+1+b2.size)=False:=eq_false (by omega)
                  clear HT3 hs4 h0 h2 hb1 hb2;go_wp2_with fail
                  refine start_ (n:=10) (S:=(fun w'=>w'.cell? ⟨wr.heap.size,2,none⟩=some (.int .i64 x.f2)∧w'.cell? ⟨wr.heap.size,3,none⟩=some (.int .i64 x.f3))) (ds:=[]) #[false,false,false,false,false,false,false,false,false,false] (by kernel_rfl) rfl rfl ⟨y2,y3⟩ (fun hHeld=>?_)
                  have HX8:Aside0 (w7.drew.heap[wr.heap.size]? = some (.cells #[.int .i64 x.f0,.int .i64 x.f1,.int .i64 x.f2,.int .i64 x.f3,.string x.f4] 42 (0,0))):=⟨HX7.out⟩
                  have HB8:=Aside0.mk (pw_below_drewN HB7.out 1)
                  have HOB8:Aside0 (IsB w.heap.size w1.heap.size (Lib.byteCells bs2 ++ Lib.strCells a) w7.drew):=⟨HOB7.out⟩
                  have HL8:Aside0 (LaidW w7.drew):=⟨HL7.out.drew⟩
                  clear HX7 HB7 HOB7 HL7 y2 y3 y4 z0;change Aside0 (Below w.heap.size w w7.drew) at HB8
                  generalize w7.drew=w8 at *
                  refine pure_ (i:=0) (N:=some 46) (v:=?_) (a':=?_) #[true,false,false,false,false,false,false,false,false,false] rfl rfl (by kernel_rfl) (fun _ _ _ h=>h) (Or.inl ⟨by rfl,?_⟩) ?_ ?_
                  rotate_left
                  · intro w'
                    go_simp
                    with_reducible rfl
                  rotate_left
                  · simp only [Act.put,List.setIfInBounds_toArray,List.set_cons_zero,List.set_cons_succ,i64_w,i32_w]
                    rfl
                  refine take_ (i:=1) (N:=some 47) (v:=?_) (a':=?_) #[true,true,false,false,false,false,false,false,false,false] rfl rfl (by kernel_rfl) (fun _ _ _ h=>h) (Or.inl ⟨by rfl,?_⟩) hHeld ?_ ?_
                  rotate_left
                  · rintro w' ⟨s0,s1⟩
                    go_simp
                    with_reducible rfl
                  rotate_left
                  · simp only [Act.put,List.setIfInBounds_toArray,List.set_cons_zero,List.set_cons_succ,i64_w,i32_w]
                    rfl
                  refine pure_ (i:=5) (N:=some 51) (v:=?_) (a':=?_) #[true,true,false,false,false,true,false,false,false,false] rfl rfl (by kernel_rfl) (fun _ _ _ h=>h) (Or.inl ⟨by rfl,?_⟩) ?_ ?_
                  rotate_left
                  · intro w'
                    go_simp
                    with_reducible rfl
                  rotate_left
                  · simp only [Act.put,List.setIfInBounds_toArray,List.set_cons_zero,List.set_cons_succ,i64_w,i32_w]
                    rfl
                  refine take_ (i:=6) (N:=some 52) (v:=?_) (a':=?_) #[true,true,false,false,false,true,true,false,false,false] rfl rfl (by kernel_rfl) (fun _ _ _ h=>h) (Or.inl ⟨by rfl,?_⟩) hHeld ?_ ?_
                  rotate_left
                  · rintro w' ⟨s0,s1⟩
                    go_simp
                    with_reducible rfl
                  rotate_left
                  · simp only [Act.put,List.setIfInBounds_toArray,List.set_cons_zero,List.set_cons_succ,i64_w,i32_w]
                    rfl
                  refine one_ (i:=2) (N:=some 48) #[true,true,true,false,false,true,true,false,false,false] rfl rfl (by kernel_rfl) (by decide) (fun K hK=>?_)
                  refine goes_ Tryz.func52 (by kernel_rfl) rfl #[.int .i64 x.f2] (by rfl) rfl rfl (by (try simp only [List.map_toArray,List.map_cons,List.map_nil]);first|done|rfl) ?_
                  with_reducible refine (strconv_Itoa.calls x.f2 b1 _ HL8.out HI1.out).mono ?_
                  rintro e w9 ⟨rfl,hb⟩
                  refine ⟨_,rfl,?_⟩
                  have HX9:=Aside0.mk ((hb.block _ (Array.getElem?_eq_some_iff.1 HX8.out).1).trans HX8.out)
                  have HB9:=Aside0.mk (below_step HB8.out hb)
                  have HOB9:=Aside0.mk (isB_below HOB8.out hb)
                  have HL9:=Aside0.mk (HL8.out.below hb)
                  have z2:w9.cell? ⟨wr.heap.size,2,none⟩=some (.int .i64 x.f2):=by rw [Lib.cell_of_heap HX9.out];rfl
                  have z3:w9.cell? ⟨wr.heap.size,3,none⟩=some (.int .i64 x.f3):=by rw [Lib.cell_of_heap HX9.out];rfl
                  clear hb;refine hK.out _ _ ⟨z2,z3⟩ (fun hHeld=>?_)
                  clear hK K;refine norm_ (a':=?_) ?_ ?_
                  rotate_left
                  · show Act.put _ (some 48) _=_
                    simp only [Act.put,List.setIfInBounds_toArray,List.set_cons_zero,List.set_cons_succ,i64_w,i32_w]
                    rfl
                  refine pure_ (i:=3) (N:=some 49) (v:=?_) (a':=?_) #[true,true,true,true,false,true,true,false,false,false] rfl rfl (by kernel_rfl) (fun _ _ _ h=>h) (Or.inl ⟨by rfl,?_⟩) ?_ ?_
                  rotate_left
                  · intro w'
                    go_simp
                    with_reducible rfl
                  rotate_left
                  · simp only [Act.put,List.setIfInBounds_toArray,List.set_cons_zero,List.set_cons_succ,i64_w,i32_w]
                    rfl
                  refine pure_ (i:=4) (N:=some 50) (v:=?_) (a':=?_) #[true,true,true,true,true,true,true,false,false,false] rfl rfl (by kernel_rfl) (fun _ _ _ h=>h) (Or.inl ⟨by rfl,?_⟩) ?_ ?_
                  rotate_left
                  · intro w'
                    go_simp
                    with_reducible rfl
                  rotate_left
                  · simp only [Act.put,List.setIfInBounds_toArray,List.set_cons_zero,List.set_cons_succ,i64_w,i32_w]
                    rfl
                  refine one_ (i:=7) (N:=some 53) #[true,true,true,true,true,true,true,true,false,false] rfl rfl (by kernel_rfl) (by decide) (fun K hK=>?_)
                  refine goes_ Tryz.func52 (by kernel_rfl) rfl #[.int .i64 x.f3] (by rfl) rfl rfl (by (try simp only [List.map_toArray,List.map_cons,List.map_nil]);first|done|rfl) ?_
                  with_reducible refine (strconv_Itoa.calls x.f3 b2 _ HL9.out HI2.out).mono ?_
                  rintro e w10 ⟨rfl,hb⟩
                  refine ⟨_,rfl,?_⟩
                  have HX10:=Aside0.mk ((hb.block _ (Array.getElem?_eq_some_iff.1 HX9.out).1).trans HX9.out)
                  have HB10:=Aside0.mk (below_step HB9.out hb)
                  have HOB10:=Aside0.mk (isB_below HOB9.out hb)
                  have HL10:=Aside0.mk (HL9.out.below hb)
                  have z2:w10.cell? ⟨wr.heap.size,2,none⟩=some (.int .i64 x.f2):=by rw [Lib.cell_of_heap HX10.out];rfl
                  have z3:w10.cell? ⟨wr.heap.size,3,none⟩=some (.int .i64 x.f3):=by rw [Lib.cell_of_heap HX10.out];rfl
                  clear hb;refine hK.out _ _ ⟨z2,z3⟩ (fun hHeld=>?_)
                  clear hK K;refine norm_ (a':=?_) ?_ ?_
                  rotate_left
                  · show Act.put _ (some 53) _=_
                    simp only [Act.put,List.setIfInBounds_toArray,List.set_cons_zero,List.set_cons_succ,i64_w,i32_w]
                    rfl
                  refine pure_ (i:=8) (N:=some 54) (v:=?_) (a':=?_) #[true,true,true,true,true,true,true,true,true,false] rfl rfl (by kernel_rfl) (fun _ _ _ h=>h) (Or.inl ⟨by rfl,?_⟩) ?_ ?_
                  rotate_left
                  · intro w'
                    go_simp
                    with_reducible rfl
                  rotate_left
                  · simp only [Act.put,List.setIfInBounds_toArray,List.set_cons_zero,List.set_cons_succ,i64_w,i32_w]
                    rfl
                  refine one_ (i:=9) (N:=some 55) #[true,true,true,true,true,true,true,true,true,true] rfl rfl (by kernel_rfl) (by decide) (fun K hK=>?_)
                  refine goes_ Tryz.func41 (by kernel_rfl) rfl #[.pointer (some ⟨w1.heap.size,0,none⟩),.string ((((⟨#[32]⟩:ByteArray) ++ b1) ++ (⟨#[32]⟩:ByteArray)) ++ b2)] (by rfl) rfl rfl (by (try simp only [List.map_toArray,List.map_cons,List.map_nil]);first|done|rfl) ?_
                  with_reducible refine (writeString_any w.heap.size w1.heap.size _ _ _ HOB10.out (by rw [HT4.out];exact HLEN7.out) HB10.out.size).mono ?_
                  rintro e w11 ⟨rfl,h11,hb11,hk11⟩
                  refine ⟨_,rfl,?_⟩
                  have HX11:Aside0 (w11.heap[wr.heap.size]? = some (.cells #[.int .i64 x.f0,.int .i64 x.f1,.int .i64 x.f2,.int .i64 x.f3,.string x.f4] 42 (0,0))):=⟨hk11 _ _ HX10.out (by intro e;injection e with e;omega) (by intro c fz e;injection e with _ e;revert e;decide)⟩
                  have HB11:=Aside0.mk (HB10.out.trans hb11)
                  rw [HT4.out] at h11
                  have HOB11:=Aside0.mk (HN7.out w11 (.inr h11))
                  have z2:w11.cell? ⟨wr.heap.size,2,none⟩=some (.int .i64 x.f2):=by rw [Lib.cell_of_heap HX11.out];rfl
                  have z3:w11.cell? ⟨wr.heap.size,3,none⟩=some (.int .i64 x.f3):=by rw [Lib.cell_of_heap HX11.out];rfl
                  clear hb11 h11 hk11;refine hK.out _ _ ⟨z2,z3⟩ (fun hHeld=>?_)
                  clear hK K;refine norm_ (a':=?_) ?_ ?_
                  rotate_left
                  · show Act.put _ (some 55) _=_
                    simp only [Act.put,List.setIfInBounds_toArray,List.set_cons_zero,List.set_cons_succ,i64_w,i32_w]
                    rfl
                  refine done_ (by kernel_rfl) ?_
                  go_wp2
                  go_roundg k2
                  case measure=>omega
                  case rel=>exact ⟨i+1,_,by go_num,⟨by omega⟩,HN,HOB11,HB11⟩
                · rw [if_neg h2] at HT3
                  have t2:(x.f0 == 2)=false:=beq_eq_false_iff_ne.2 h2
                  obtain ⟨b1,hb1,HT3⟩:=Option.bind_eq_some_iff.1 HT3
                  by_cases hs4:b1.size≤1000
                  case neg=>rw [if_neg hs4] at HT3;cases HT3
                  rw [if_pos hs4] at HT3
                  have HT4:=Aside0.mk (Option.some.inj HT3)
                  have HI1:=Aside0.mk hb1
                  have hcat:(9223372036854775807<1+b1.size)=False:=eq_false (by omega)
                  clear HT3 hs4 h0 h2 hb1;go_wp2_with fail
                  refine (strconv_Itoa.calls x.f2 b1 _ HL7.out HI1.out).mono ?_
                  rintro e w8 ⟨rfl,hb8⟩
                  have HOB8:=Aside0.mk (isB_below HOB7.out hb8)
                  have HB8:=Aside0.mk (below_step HB7.out hb8)
                  clear hb8;go_wp2_with fail
                  refine (writeString_any w.heap.size w1.heap.size _ ((⟨#[32]⟩:ByteArray) ++ b1) w8 HOB8.out (by rw [HT4.out];exact HLEN7.out) HB8.out.size).mono ?_
                  rintro e w9 ⟨rfl,h9,hb9,_⟩
                  rw [HT4.out] at h9
                  have HOB9:=Aside0.mk (HN7.out w9 (.inr h9))
                  have HB9:=Aside0.mk (HB8.out.trans hb9)
                  clear h9 hb9;go_wp2
                  go_roundg k2
                  case measure=>omega
                  case rel=>exact ⟨i+1,_,by go_num,⟨by omega⟩,HN,HOB9,HB9⟩
          · rw [if_neg hlim] at H
            cases H
        · rw [if_neg hlt] at H
          obtain rfl:=Option.some.inj H
          have t1:decide ((i:Int)<(l0.length:Int))=false:=decide_eq_false hlt
          have t2:decide (i<l0.length)=false:=decide_eq_false (by omega)
          clear H hlt;go_wp2_with fail
          refine (Tryz.Builder_Len_f w.heap.size w1.heap.size _ _ HOB.out).mono ?_
          rintro e w4 ⟨rfl,rfl⟩
          rw [Lib.byteCells_length]
          by_cases hbig:4000000<bs.length
          · have HH2:=HH.out
            rw [if_pos hbig] at HH2
            simp only [Option.some.injEq,Prod.mk.injEq] at HH2
            obtain ⟨e1,e2⟩:=HH2
            subst e1 e2
            have hb0:decide (4000000<(bs.length:Int))=true:=decide_eq_true (by omega)
            have hb1:decide (4000000<bs.length)=true:=decide_eq_true hbig
            generalize bs.length=n at *
            clear hbig;go_wp2
            go_ret2
            exact ⟨rfl,HB.out⟩
          · have HH2:=HH.out
            rw [if_neg hbig] at HH2
            simp only [Option.some.injEq,Prod.mk.injEq] at HH2
            obtain ⟨e1,e2⟩:=HH2
            subst e1 e2
            have hb0:decide (4000000<(bs.length:Int))=false:=decide_eq_false (by omega)
            have hb1:decide (4000000<bs.length)=false:=decide_eq_false hbig
            have HS:Aside0 (Calls Tryz.prog 45 #[.pointer (some ⟨w1.heap.size,0,none⟩)] w4 fun e w'=>e = .returned (.string ⟨bs.toArray⟩)∧Below w.heap.size w4 w'):=⟨(Tryz.Builder_String_any_k w.heap.size w1.heap.size _ _ HOB.out HB.out.size).mono fun e w' h=>⟨h.1,h.2.2.1⟩⟩
            clear hbig;obtain ⟨rs,hrs⟩ : ∃ rs:ByteArray,rs=⟨bs.toArray⟩:=⟨_,rfl⟩
            rw [← hrs] at HS
            have HRS:=Aside0.mk hrs
            clear hrs;generalize bs.length=n at *
            go_wp2_with fail
            refine HS.out.mono ?_
            rintro e w5 ⟨rfl,hb5⟩
            have HB5:=Aside0.mk (HB.out.trans hb5)
            clear hb5;go_wp2
            go_ret2
            exact ⟨by have:=HRS.out;subst this;rfl,HB5.out⟩
end Go.Proofs.YtfckjfoalpkpjaaGreatDoor.C
