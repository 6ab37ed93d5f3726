import Derived.Test.YtfckjfoalpkpjaaGreatDoorHA
set_option linter.unusedSimpArgs false
set_option linter.unusedVariables false
namespace Go.Proofs.YtfckjfoalpkpjaaGreatDoor.C
open Go.RowKit Go.Proofs.YtfckjfoalpkpjaaGreatDoorW.PrintWords Go.Proofs.YtfckjfoalpkpjaaGreatDoorW.PrintLast Go.Proofs.YtfckjfoalpkpjaaGreatDoorW.PrintMore
def eachInstr:List ByteArray→List S42→Option (Option (List S42))
  | [],p=>some (some p)
  | s :: l,p=>(code_instr.f s).bind fun r=>if r.2=true then (if p.length<2932031007000 then eachInstr l (p ++ [r.1]) else none) else some none
set_option maxHeartbeats 2000000 in
set_option maxRecDepth 100000 in
theorem eachInstr_calls (A0:Option Addr) (c0:Nat) (l:List ByteArray) (q:Option (List S42)) (w:World) (hL:LaidW w) (hr0:Kd.C Kd.string w A0 l.length l) (hc0:l.length≤c0) (h:eachInstr l []=some q) :
    Calls Tryz.prog 35 #[.slice A0 l.length c0,.func (.func 37) #[] #[]] w fun e w' => ∃ v0_:Value,e = .returned (.tuple #[v0_,.bool q.isSome])∧Kd.R k42 42 w' w.heap.size (fun _=>True) v0_ (q.getD [])∧Below w.heap.size w w':=by
  have HLW:=Aside0.mk hL
  have HR0:=Aside0.mk hr0
  have hlm:l.length≤9223372036854775807:=hr0.2.1
  have HQ:Aside0 (eachInstr (l.drop 0) []=some q):=⟨h⟩
  clear hr0 hL h hc0;go_enter Tryz.func35,Tryz.ntmps35
  go_wp2
  go_loopg [6,13] l.length (fun kq v6 v13 wr => ∃ (i:Nat) (p:List S42),v13 = .int .i64 i∧Aside0 (i≤l.length∧kq+i=l.length)∧Aside0 (eachInstr (l.drop i) p=some q)∧Aside0 (Kd.R k42 42 wr w.heap.size (fun _=>True) v6 p)∧Aside0 (Below w.heap.size w wr))
  case atStart=>exact ⟨0,[],rfl,⟨Nat.zero_le _,rfl⟩,HQ,⟨Kd.R_nil _ _ _ _ _⟩,⟨Below.refl _ _⟩⟩
  case round =>
    clear HQ;obtain ⟨i,p,rfl,HI,HA,HR,HB⟩:=hrel
    have H:=HA.out
    clear HA;by_cases hlt:(i:Int)<(l.length:Int)
    · rw [drop_row l i (by omega),eachInstr] at H
      obtain ⟨⟨x,ok⟩,hn,H⟩:=Option.bind_eq_some_iff.1 H
      dsimp only at H
      have HN:=Aside0.mk H
      have HV:=Aside0.mk hn
      clear H hn;cases gk with
      | zero=>exact absurd HI.out.2 (by omega)
      | succ k2 =>
      obtain ⟨ad,eA,hx0⟩:=Kd.at_string HR0.out (i:Int) (by omega) hlt
      subst eA;rw [Int.toNat_natCast] at hx0
      replace hx0:=(HB.out.cell (World.block_lt_of_cell? w _ hx0)).trans hx0
      generalize rdOf ByteArray.empty l (i:Int)=s at *
      go_wp2_with fail
      refine (code_instr.calls s x ok _ (HLW.out.below HB.out) HV.out).mono ?_
      rintro e w2 ⟨rfl,hb2⟩
      have HR2:=Aside0.mk (Kd.R_below HR.out hb2)
      have HB2:=Aside0.mk (below_step HB.out hb2)
      clear hb2 HR HB hx0;cases ok with
      | false =>
        obtain rfl:q=none:=by have:=HN.out;simpa using this.symm
        clear HN;go_wp2
        go_ret2
        exact ⟨_,rfl,Kd.R_nil _ _ _ _ _,below_alloc HB2.out _⟩
      | true =>
        by_cases hpl:p.length<2932031007000
        · have HN3:Aside0 (eachInstr (l.drop (i+1)) (p ++ [x])=some q):=⟨by have:=HN.out;simpa [hpl] using this⟩
          have HPL:=Aside0.mk hpl
          clear HN hpl;go_wp2_with (at_builtin;refine Kd.R_append k42 (w0:=w) w.heap.size rfl _ _ 22 42 (.agg #[(.int .i64 0),(.int .i64 0),(.int .i64 0),(.int .i64 0),(.string ⟨#[]⟩)]) 48 rfl Tryz.underlying22 info42 rfl (by decide) (by omega) _ p x [.int .i64 x.f0,.int .i64 x.f1,.int .i64 x.f2,.int .i64 x.f3,.string x.f4] (fun _=>True) (fun _=>False) rfl (by first|(go_simp;done)|(go_simp;rfl)) (k42_mkM _ _ _ _) (fun _ hk=>hk.elim) ?aF ?aO ?aB ?aS ?aL ?_)
          case aF=>exact fun _ _=>trivial
          case aO=>exact Kd.R_alloc HR2.out _
          case aB=>exact below_alloc HB2.out _
          case aS=>exact (below_alloc HB2.out _).size
          case aL=>have:=HPL.out;omega
          intro v6 w6 ho6 hb6 hg6 hat6
          have HO6:=Aside0.mk ho6
          have HB6:=Aside0.mk hb6
          clear ho6 hb6 hg6 hat6 HPL HR2 HB2;go_wp2
          go_roundg k2
          case measure=>omega
          case rel=>exact ⟨i+1,_,by go_num,⟨by have:=HI.out;omega⟩,HN3,HO6,HB6⟩
        · exact absurd HN.out (by simp [hpl])
    · have hd:l.drop i = []:=List.drop_eq_nil_of_le (by omega)
      rw [hd,eachInstr] at H
      obtain rfl:=Option.some.inj H
      clear H;have t1:decide ((i:Int)<(l.length:Int))=false:=decide_eq_false hlt
      have t2:decide (i<l.length)=false:=decide_eq_false (by omega)
      clear hlt hd;go_wp2
      go_ret2
      exact ⟨_,rfl,HR.out,HB.out⟩
def code_Parse.f (k:Nat) (a0:ByteArray):Option (List S42 × Int) :=
  if 4000000<a0.size then some ([],5) else if a0.toList=([]:List UInt8) then some ([],0) else (strings_Split.f a0 ⟨#[59,32]⟩).bind fun l=>(eachInstr l []).bind fun q=>match q with
    | none=>some ([],5)
    | some p=>(code_Valid.f k p).bind fun v=>if v=true then some (p,0) else some ([],5)
theorem code_Parse.mono : ∀ a0 k,LeO (code_Parse.f k a0) (code_Parse.f (k+1) a0):=by
  intro a0 k
  unfold code_Parse.f
  refine LeO.ite (LeO.refl _) (LeO.ite (LeO.refl _) (LeO.bind (LeO.refl _) (fun l=>LeO.bind (LeO.refl _) (fun q=>?_))))
  cases q with
  | none=>exact LeO.refl _
  | some p=>exact LeO.bind (code_Valid.mono _ _) (fun v=>LeO.refl _)
set_option maxHeartbeats 2000000 in
set_option maxRecDepth 100000 in
theorem code_Parse.calls (k:Nat) (a0:ByteArray) (r1:List S42) (r2:Int) (w:World) (hL:LaidW w) (h:code_Parse.f k a0=some (r1,r2)) :
    Calls Tryz.prog 13 #[.string a0] w fun e w' => ∃ v0_:Value,e = .returned (.tuple #[v0_,.int .i64 r2])∧Kd.R k42 42 w' w.heap.size (fun _=>True) v0_ r1∧Below w.heap.size w w':=by
  unfold code_Parse.f at h
  have HLW:=Aside0.mk hL
  clear hL;by_cases h4:4000000<a0.size
  · rw [if_pos h4] at h
    simp only [Option.some.injEq,Prod.mk.injEq] at h
    obtain ⟨e1,e2⟩:=h
    subst e1 e2
    have t1:decide ((4000000:Int)<(a0.size:Int))=true:=decide_eq_true (by omega)
    have t2:decide (4000000<a0.size)=true:=decide_eq_true h4
    clear h4;go_enter Tryz.func13,Tryz.ntmps13
    go_wp2
    go_ret2
    exact ⟨_,rfl,Kd.R_nil _ _ _ _ _,Below.refl _ _⟩
  rw [if_neg h4] at h
  have t1:decide ((4000000:Int)<(a0.size:Int))=false:=decide_eq_false (by omega)
  have t2:decide (4000000<a0.size)=false:=decide_eq_false h4
  clear h4;by_cases h0:a0.toList=([]:List UInt8)
  · rw [if_pos h0] at h
    simp only [Option.some.injEq,Prod.mk.injEq] at h
    obtain ⟨e1,e2⟩:=h
    subst e1 e2
    have u1:(a0.toList == ([]:List UInt8))=true:=beq_iff_eq.2 h0
    go_enter Tryz.func13,Tryz.ntmps13
    go_wp2
    go_ret2
    exact ⟨_,rfl,Kd.R_nil _ _ _ _ _,Below.refl _ _⟩
  rw [if_neg h0] at h
  have u1:(a0.toList == ([]:List UInt8))=false:=beq_eq_false_iff_ne.2 h0
  clear h0;obtain ⟨l,hl,h⟩:=Option.bind_eq_some_iff.1 h
  obtain ⟨q,hq,h⟩:=Option.bind_eq_some_iff.1 h
  have HSP:=Aside0.mk hl
  have HQ:=Aside0.mk hq
  have HH:=Aside0.mk h
  clear hl hq h;go_enter Tryz.func13,Tryz.ntmps13
  go_wp2_with fail
  refine (strings_Split.calls a0 _ l _ HLW.out HSP.out).mono ?_
  rintro e w1 ⟨v1,rfl,hr1,hb1⟩
  obtain ⟨A1,cap1,rfl,hc1,hC1⟩:=Kd.R_reads hr1
  have HB1:=Aside0.mk hb1
  have HE:=Aside0.mk (eachInstr_calls A1 cap1 l q w1 (HLW.out.below hb1) hC1 hc1 HQ.out)
  clear hr1 hb1 hC1 hc1;go_wp2_with fail
  refine HE.out.mono ?_
  rintro e w2 ⟨v2,rfl,hr2,hb2⟩
  have HB2:=Aside0.mk (below_step HB1.out hb2)
  have HR2:=Aside0.mk (Kd.R_lower hr2 HB1.out.size)
  clear hr2 hb2;cases q with
  | none =>
    have hh:=HH.out
    simp only [Option.some.injEq,Prod.mk.injEq] at hh
    obtain ⟨e1,e2⟩:=hh
    subst e1 e2
    go_wp2
    go_ret2
    exact ⟨_,rfl,Kd.R_nil _ _ _ _ _,HB2.out⟩
  | some p =>
    have hh:=HH.out
    dsimp only at hh
    obtain ⟨v,hv,hh⟩:=Option.bind_eq_some_iff.1 hh
    have HV:=Aside0.mk hv
    obtain ⟨A2,cap2,rfl,hc2,hC2⟩:=Kd.R_reads HR2.out
    have HC2:=Aside0.mk hC2
    have HCC:=Aside0.mk hc2
    clear hv hC2 hc2;go_wp2_with fail
    refine (code_Valid.calls k A2 cap2 p v w2 HC2.out HCC.out HV.out).mono ?_
    rintro e w3 ⟨rfl,hb3⟩
    have HB3:=Aside0.mk (below_step HB2.out hb3)
    have HR3:=Aside0.mk (Kd.R_below HR2.out hb3)
    clear hb3;cases v with
    | false =>
      simp only [Bool.false_eq_true,if_false,Option.some.injEq,Prod.mk.injEq] at hh
      obtain ⟨e1,e2⟩:=hh
      subst e1 e2
      go_wp2
      go_ret2
      exact ⟨_,rfl,Kd.R_nil _ _ _ _ _,HB3.out⟩
    | true =>
      simp only [if_true,Option.some.injEq,Prod.mk.injEq] at hh
      obtain ⟨e1,e2⟩:=hh
      subst e1 e2
      go_wp2
      go_ret2
      exact ⟨_,rfl,HR3.out,HB3.out⟩
end Go.Proofs.YtfckjfoalpkpjaaGreatDoor.C
