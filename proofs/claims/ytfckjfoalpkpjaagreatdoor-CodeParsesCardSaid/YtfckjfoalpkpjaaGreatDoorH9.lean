import Derived.Test.YtfckjfoalpkpjaaGreatDoorH0
import Derived.Test.YtfckjfoalpkpjaaGreatDoorH4
import Derived.Test.YtfckjfoalpkpjaaGreatDoorF51
import Derived.Test.YtfckjfoalpkpjaaGreatDoorF23
import Derived.Laws.EntriesVeiled
set_option linter.unusedSimpArgs false
set_option linter.unusedVariables false
namespace Go.Proofs.YtfckjfoalpkpjaaGreatDoor.C
open Go.RowKit Go.Proofs.YtfckjfoalpkpjaaGreatDoorW.PrintWords Go.Proofs.YtfckjfoalpkpjaaGreatDoorW.PrintLast Go.Proofs.YtfckjfoalpkpjaaGreatDoorW.PrintMore
def eachInt:List ByteArray→List Int→Option (Option (List Int))
  | [],p=>some (some p)
  | s :: l,p=>(code_integer.f s).bind fun r=>if r.2=true then (if p.length<17592186040000 then eachInt l (p ++ [r.1]) else none) else some none
theorem drop_row (l:List ByteArray) (i:Nat) (h:i<l.length):l.drop i=rdOf ByteArray.empty l (i:Int) :: l.drop (i+1):=by
  rw [List.drop_eq_getElem_cons h]
  simp [rdOf,h]
set_option maxHeartbeats 2000000 in
set_option maxRecDepth 100000 in
theorem eachInt_calls (A0:Option Addr) (c0:Nat) (l:List ByteArray) (q:Option (List Int)) (w:World) (hL:LaidW w) (hr0:Kd.C Kd.string w A0 l.length l) (hc0:l.length≤c0) (h:eachInt l []=some q) :
    Calls Tryz.prog 68 #[.slice A0 l.length c0,.func (.func 67) #[] #[]] w fun e w' => ∃ v0_:Value,e = .returned (.tuple #[v0_,.bool q.isSome])∧Kd.R (Kd.int .i64) 3 w' w.heap.size (fun _=>True) v0_ (q.getD [])∧Below w.heap.size w w':=by
  have HLW:=Aside0.mk hL
  have HR0:=Aside0.mk hr0
  have hlm:l.length≤9223372036854775807:=hr0.2.1
  have HQ:Aside0 (eachInt (l.drop 0) []=some q):=⟨h⟩
  clear hr0 hL h hc0;go_enter Tryz.func68,Tryz.ntmps68
  go_wp2
  go_loopg [6,13] l.length (fun kq v6 v13 wr => ∃ (i:Nat) (p:List Int),v13 = .int .i64 i∧Aside0 (i≤l.length∧kq+i=l.length)∧Aside0 (eachInt (l.drop i) p=some q)∧Aside0 (Kd.R (Kd.int .i64) 3 wr w.heap.size (fun _=>True) v6 p)∧Aside0 (Below w.heap.size w wr))
  case atStart=>exact ⟨0,[],rfl,⟨Nat.zero_le _,rfl⟩,HQ,⟨Kd.R_nil _ _ _ _ _⟩,⟨Below.refl _ _⟩⟩
  case round =>
    clear HQ;obtain ⟨i,p,rfl,HI,HA,HR,HB⟩:=hrel
    have H:=HA.out
    clear HA;by_cases hlt:(i:Int)<(l.length:Int)
    · rw [drop_row l i (by omega),eachInt] at H
      obtain ⟨⟨n,ok⟩,hn,H⟩:=Option.bind_eq_some_iff.1 H
      dsimp only at H
      have HN:=Aside0.mk H
      have HV:=Aside0.mk hn
      clear H hn;cases gk with
      | zero=>exact absurd HI.out.2 (by omega)
      | succ k2 =>
      obtain ⟨ad,eA,hx0⟩:=Kd.at_string HR0.out (i:Int) (by omega) hlt
      subst eA;rw [Int.toNat_natCast] at hx0
      replace hx0:=(HB.out.cell (World.block_lt_of_cell? w _ hx0)).trans hx0
      generalize rdOf ByteArray.empty l (i:Int)=s at *
      go_wp2_with fail
      refine (code_integer.calls s n ok _ (HLW.out.below HB.out) HV.out).mono ?_
      rintro e w2 ⟨rfl,hb2⟩
      have HR2:=Aside0.mk (Kd.R_below HR.out hb2)
      have HB2:=Aside0.mk (below_step HB.out hb2)
      clear hb2 HR HB hx0;cases ok with
      | false =>
        obtain rfl:q=none:=by have:=HN.out;simpa using this.symm
        clear HN;go_wp2
        go_ret2
        exact ⟨_,rfl,Kd.R_nil _ _ _ _ _,HB2.out⟩
      | true =>
        by_cases hpl:p.length<17592186040000
        · have HN3:Aside0 (eachInt (l.drop (i+1)) (p ++ [n])=some q):=⟨by have:=HN.out;simpa [hpl] using this⟩
          have HPL:=Aside0.mk hpl
          clear HN hpl;go_wp2_with (at_builtin;refine Kd.R_append (Kd.int .i64) (w0:=w) w.heap.size rfl _ _ 87 3 (.int .i64 0) 8 rfl Tryz.underlying87 info3 rfl (by decide) (by omega) _ p n [.int .i64 n] (fun _=>True) (fun _=>False) rfl rfl rfl (fun _ hk=>hk.elim) ?aF ?aO ?aB ?aS ?aL ?_)
          case aF=>exact fun _ _=>trivial
          case aO=>exact HR2.out
          case aB=>exact HB2.out
          case aS=>exact HB2.out.size
          case aL=>have:=HPL.out;omega
          intro v6 w6 ho6 hb6 hg6 hat6
          have HO6:=Aside0.mk ho6
          have HB6:=Aside0.mk hb6
          clear ho6 hb6 hg6 hat6 HPL HR2 HB2;go_wp2
          go_roundg k2
          case measure=>omega
          case rel=>exact ⟨i+1,_,by go_num,⟨by have:=HI.out;omega⟩,HN3,HO6,HB6⟩
        · exact absurd HN.out (by simp [hpl])
    · have hd:l.drop i = []:=List.drop_eq_nil_of_le (by omega)
      rw [hd,eachInt] at H
      obtain rfl:=Option.some.inj H
      clear H;have t1:decide ((i:Int)<(l.length:Int))=false:=decide_eq_false hlt
      have t2:decide (i<l.length)=false:=decide_eq_false (by omega)
      clear hlt hd;go_wp2
      go_ret2
      exact ⟨_,rfl,HR.out,HB.out⟩
end Go.Proofs.YtfckjfoalpkpjaaGreatDoor.C
