import Derived.Test.YtfckjfoalpkpjaaGreatDoorH3
import Derived.Test.YtfckjfoalpkpjaaGreatDoorH5
import Derived.Test.YtfckjfoalpkpjaaGreatDoorF27
import Derived.Test.YtfckjfoalpkpjaaGreatDoorF28
import Derived.Test.YtfckjfoalpkpjaaGreatDoorF60
import Derived.Test.YtfckjfoalpkpjaaGreatDoorF62
import Derived.Test.YtfckjfoalpkpjaaGreatDoorF64
import Derived.Test.YtfckjfoalpkpjaaGreatDoorF80
set_option linter.unusedSimpArgs false
set_option linter.unusedVariables false
namespace Go.Proofs.YtfckjfoalpkpjaaGreatDoor.C
open Go.RowKit Go.Proofs.YtfckjfoalpkpjaaGreatDoorW.PrintWords Go.Proofs.YtfckjfoalpkpjaaGreatDoorW.PrintLast Go.Proofs.YtfckjfoalpkpjaaGreatDoorW.PrintMore
def getOf (n:Int) (s:ByteArray):Option (Bool × Int × Int × Int × Int × ByteArray) :=
  if n=0 then code_fields_2.f n 0 0 0 ⟨#[]⟩ s else if n=2 then code_fields_4.f n 0 0 0 ⟨#[]⟩ s else if n=5 then code_fields_6.f n 0 0 0 ⟨#[]⟩ s else code_regs_2.f n 0 0 0 ⟨#[]⟩ s
theorem get_calls (g:Nat) (n:Int) (s:ByteArray) (r1:Bool) (r2 r3 r4 r5:Int) (r6:ByteArray) (w0 w:World) (hI:IsS42 w0 w g n 0 0 0 ⟨#[]⟩) (hB:Below w0.heap.size w0 w) (h:getOf n s=some (r1,r2,r3,r4,r5,r6)) :
    Calls Tryz.prog (fget n) #[.pointer (some ⟨g,0,none⟩),.string s] w fun e w'=>e = .returned (.bool r1)∧IsS42 w0 w' g r2 r3 r4 r5 r6∧Below w0.heap.size w0 w'∧KeepBut w w' g none:=by
  unfold getOf at h
  unfold fget
  split at h
  · rename_i h0;rw [if_pos h0];exact code_fields_2.calls g _ _ _ _ _ s _ _ _ _ _ _ w0 w hI hB h
  rename_i h0
  split at h
  · rename_i h2;rw [if_neg h0,if_pos h2];exact code_fields_4.calls g _ _ _ _ _ s _ _ _ _ _ _ w0 w hI hB h
  rename_i h2
  split at h
  · rename_i h5;rw [if_neg h0,if_neg h2,if_pos h5];exact code_fields_6.calls g _ _ _ _ _ s _ _ _ _ _ _ w0 w hI hB h
  · rename_i h5;rw [if_neg h0,if_neg h2,if_neg h5];exact code_regs_2.calls g _ _ _ _ _ s _ _ _ _ _ _ w0 w hI hB h
theorem enters_get (op:Int) : ∀ args w,(callFunc (fget op) args).run Tryz.prog w = .ok (.enter (fget op) args) w:=by
  intro args w
  unfold fget
  split
  · exact enters_of Tryz.func60 (by kernel_rfl) rfl args w
  split
  · exact enters_of Tryz.func62 (by kernel_rfl) rfl args w
  split
  · exact enters_of Tryz.func64 (by kernel_rfl) rfl args w
  · exact enters_of Tryz.func80 (by kernel_rfl) rfl args w
def mkI (r:Bool × Int × Int × Int × Int × ByteArray):S42:=⟨r.2.1,r.2.2.1,r.2.2.2.1,r.2.2.2.2.1,r.2.2.2.2.2⟩
def code_Decode.l:Nat→List ByteArray→Int→List S42→Option (Option (List S42))
  | 0,_,_,_=>none
  | k+1,l,i,p=>if i<(l.length:Int) then (code_pair.f (rdOf ByteArray.empty l i)).bind fun t=>(code_value.f t.1).bind fun v =>
      if t.2.2=true then (if v.2=true then (if v.1<6 then (getOf v.1 t.2.1).bind fun r=>if r.1=true then (if p.length<2932031007000 then code_Decode.l k l (i+1) (p ++ [mkI r]) else none) else some none else some none) else some none) else some none
    else some (some p)
def code_Decode.f (k:Nat) (a0:ByteArray):Option (List S42 × Int) :=
  (tree_Items.f k a0).bind fun t=>if t.2=0 then (if (4000:Int)<(t.1.length:Int) then some ([],4) else (code_Decode.l k t.1 0 []).bind fun q=>match q with
    | none=>some ([],4)
    | some p=>(code_Valid.f k p).bind fun v=>if v=true then some (p,0) else some ([],4)) else some ([],t.2)
theorem code_Decode.l_mono : ∀ k l i p,LeO (code_Decode.l k l i p) (code_Decode.l (k+1) l i p):=by
  intro k
  induction k with
  | zero=>intro l i p r h;simp [code_Decode.l] at h
  | succ k ih =>
    intro l i p
    rw [code_Decode.l,code_Decode.l]
    exact LeO.ite (LeO.bind (LeO.refl _) (fun t=>LeO.bind (LeO.refl _) (fun v=>LeO.ite (LeO.ite (LeO.ite (LeO.bind (LeO.refl _) (fun r=>LeO.ite (LeO.ite (ih _ _ _) (LeO.refl _)) (LeO.refl _))) (LeO.refl _)) (LeO.refl _)) (LeO.refl _)))) (LeO.refl _)
theorem code_Decode.mono : ∀ a0 k,LeO (code_Decode.f k a0) (code_Decode.f (k+1) a0):=by
  intro a0 k
  unfold code_Decode.f
  refine LeO.bind (tree_Items.mono _ _) (fun t=>LeO.ite (LeO.ite (LeO.refl _) (LeO.bind (code_Decode.l_mono _ _ _ _) (fun q=>?_))) (LeO.refl _))
  cases q with
  | none=>exact LeO.refl _
  | some p=>exact LeO.bind (code_Valid.mono _ _) (fun v=>LeO.refl _)
set_option maxHeartbeats 2000000 in
set_option maxRecDepth 100000 in
theorem code_Decode.calls (k:Nat) (a0:ByteArray) (r1:List S42) (r2:Int) (w:World) (h:code_Decode.f k a0=some (r1,r2)) :
    Calls Tryz.prog 8 #[.string a0] w fun e w' => ∃ v0_:Value,e = .returned (.tuple #[v0_,.int .i64 r2])∧Kd.R k42 42 w' w.heap.size (fun _=>True) v0_ r1∧Below w.heap.size w w':=by
  unfold code_Decode.f at h
  obtain ⟨⟨l,er⟩,hit,h⟩:=Option.bind_eq_some_iff.1 h
  dsimp only at h
  by_cases he:er=0
  case neg =>
    rw [if_neg he] at h
    simp only [Option.some.injEq,Prod.mk.injEq] at h
    obtain ⟨e1,e2⟩:=h
    subst e1 e2
    have t0:(er == 0)=false:=beq_eq_false_iff_ne.2 he
    have t1:(er != 0)=true:=bne_iff_ne.2 he
    clear he;go_enter Tryz.func8,Tryz.ntmps8
    go_wp2_with (go_at_call 18;refine (tree_Items.calls k a0 l er _ hit).mono ?_;rintro e w1 ⟨v0,rfl,hr,hb⟩)
    go_ret2
    exact ⟨_,rfl,Kd.R_nil _ _ _ _ _,‹Below _ _ _›⟩
  case pos =>
    subst he;rw [if_pos rfl] at h
    by_cases h4:(4000:Int)<(l.length:Int)
    case pos =>
      rw [if_pos h4] at h
      simp only [Option.some.injEq,Prod.mk.injEq] at h
      obtain ⟨e1,e2⟩:=h
      subst e1 e2
      have t1:decide ((4000:Int)<(l.length:Int))=true:=decide_eq_true h4
      have t2:decide (4000<l.length)=true:=decide_eq_true (by omega)
      clear h4;go_enter Tryz.func8,Tryz.ntmps8
      go_wp2_with (go_at_call 18;refine (tree_Items.calls k a0 l 0 _ hit).mono ?_)
      rintro e w1 ⟨v0,rfl,hr,hb⟩
      obtain ⟨A,c,rfl⟩:=Kd.R_slice hr
      have HB:=Aside0.mk hb
      clear hr hb;go_wp2
      go_ret2
      exact ⟨_,rfl,Kd.R_nil _ _ _ _ _,HB.out⟩
    case neg =>
      rw [if_neg h4] at h
      obtain ⟨q,hq,h⟩:=Option.bind_eq_some_iff.1 h
      have HQ:=Aside0.mk hq
      have HH:=Aside0.mk h
      have HIT:=Aside0.mk hit
      have t1:decide ((4000:Int)<(l.length:Int))=false:=decide_eq_false h4
      have t2:decide (4000<l.length)=false:=decide_eq_false (by omega)
      have hlm:l.length≤4000:=by omega
      clear h4 hq h hit;go_enter Tryz.func8,Tryz.ntmps8
      go_wp2_with (go_at_call 18;refine (tree_Items.calls k a0 l 0 _ HIT.out).mono ?_)
      rintro e w1 ⟨v0,rfl,hr,hb⟩
      obtain ⟨A,c,rfl,hcap,hC⟩:=Kd.R_reads hr
      have HR0:=Aside0.mk hC
      have HBB:=Aside0.mk hb
      clear hr hb hC hcap HIT;go_wp2
      go_loopg [6,28] k (fun kq v6 v28 wr => ∃ (i:Nat) (p:List S42),v28 = .int .i64 i∧Aside0 (i≤l.length)∧Aside0 (code_Decode.l kq l i p=some q)∧Aside0 (Kd.R k42 42 wr w1.heap.size (fun _=>True) v6 p)∧Aside0 (Below w1.heap.size w1 wr))
      case atStart=>exact ⟨0,[],rfl,⟨Nat.zero_le _⟩,HQ,⟨Kd.R_nil _ _ _ _ _⟩,⟨Below.refl _ _⟩⟩
      case round =>
        clear HQ;obtain ⟨i,p,rfl,HI,HA,HR,HB⟩:=hrel
        cases gk with
        | zero=>exact absurd HA.out (by simp [code_Decode.l])
        | succ k2 =>
          have H:=HA.out
          clear HA;rw [code_Decode.l] at H
          by_cases hlt:(i:Int)<(l.length:Int)
          · rw [if_pos hlt] at H
            obtain ⟨⟨op,args,is⟩,hpr,H⟩:=Option.bind_eq_some_iff.1 H
            obtain ⟨⟨n,ok⟩,hvl,H⟩:=Option.bind_eq_some_iff.1 H
            dsimp only at H hvl
            have HP:=Aside0.mk hpr
            have HV:=Aside0.mk hvl
            have HN:=Aside0.mk H
            clear H hpr hvl;obtain ⟨ad,eA,hx0⟩:=Kd.at_string HR0.out (i:Int) (by omega) hlt
            subst eA;rw [Int.toNat_natCast] at hx0
            replace hx0:=(HB.out.cell (World.block_lt_of_cell? w1 _ hx0)).trans hx0
            generalize rdOf ByteArray.empty l (i:Int)=s at *
            go_wp2_with fail
            refine (code_pair.calls s op args is _ HP.out).mono ?_
            rintro e w2 ⟨rfl,hb2⟩
            have HB2:=Aside0.mk hb2
            clear hb2 hx0;go_wp2_with fail
            refine (code_value.calls op n ok _ HV.out).mono ?_
            rintro e w3 ⟨rfl,hb3⟩
            have HR3:=Aside0.mk (Kd.R_below (Kd.R_below HR.out HB2.out) hb3)
            have HB3:=Aside0.mk (below_step (below_step HB.out HB2.out) hb3)
            clear hb3 HR;have hR3 : ∃ A c,u6 = .slice A p.length c:=Kd.R_slice HR3.out
            cases is with
            | false =>
              have hq0:q=none:=by have:=HN.out;simpa using this.symm
              subst hq0;have HH2:=HH.out
              simp only [Option.some.injEq,Prod.mk.injEq] at HH2
              obtain ⟨e1,e2⟩:=HH2
              subst e1 e2
              clear HN HR3;go_wp2
              go_ret2
              exact ⟨_,rfl,Kd.R_nil _ _ _ _ _,below_alloc (below_step HBB.out HB3.out) _⟩
            | true =>
              cases ok with
              | false =>
                have hq0:q=none:=by have:=HN.out;simpa using this.symm
                subst hq0;have HH2:=HH.out
                simp only [Option.some.injEq,Prod.mk.injEq] at HH2
                obtain ⟨e1,e2⟩:=HH2
                subst e1 e2
                clear HN HR3;go_wp2
                go_ret2
                exact ⟨_,rfl,Kd.R_nil _ _ _ _ _,below_alloc (below_step HBB.out HB3.out) _⟩
              | true =>
                by_cases hn6:n<6
                · have b6:decide (6≤n)=false:=decide_eq_false (by omega)
                  cases hg:getOf n args with
                  | none=>exact absurd HN.out (by simp [hn6,hg])
                  | some r =>
                    obtain ⟨g1,g2,g3,g4,g5,g6⟩:=r
                    have HG:=Aside0.mk hg
                    clear hg;have hent:=enters_get n
                    have hfld:=run_field_get (fput n) (fget n)
                    go_wp2_with fail
                    have HN2:Aside0 ((if g1=true then if p.length<2932031007000 then code_Decode.l k2 l ((i:Int)+1) (p ++ [mkI (g1,g2,g3,g4,g5,g6)]) else none else some none)=some q):=⟨by have:=HN.out;simpa [hn6,HG.out] using this⟩
                    clear HN HV HP HB2 HI;have HIN:=Aside0.mk (IsS42.new w3 w3 n 0 0 0 ⟨#[]⟩ (Below.refl _ _))
                    refine (fields_calls n _).mono ?_
                    rintro e w4 ⟨rfl,hb4⟩
                    have HI4:=Aside0.mk (HIN.out.below hb4)
                    have HB4:=Aside0.mk (below_step (below_alloc (Below.refl _ _) _) hb4)
                    clear hb4 HIN;go_wp2_with fail
                    refine (get_calls w3.heap.size n args g1 g2 g3 g4 g5 g6 w3 w4 HI4.out HB4.out HG.out).mono ?_
                    rintro e w5 ⟨rfl,hI5,hb5,_⟩
                    have HI5:=Aside0.mk hI5
                    have HB5:=Aside0.mk hb5
                    clear hI5 hb5 HI4 HB4 HG;cases g1 with
                    | false =>
                      have hq0:q=none:=by have:=HN2.out;simpa using this.symm
                      subst hq0;have HH2:=HH.out
                      simp only [Option.some.injEq,Prod.mk.injEq] at HH2
                      obtain ⟨e1,e2⟩:=HH2
                      subst e1 e2
                      clear HN2 HR3 hR3;go_wp2
                      go_ret2
                      exact ⟨_,rfl,Kd.R_nil _ _ _ _ _,below_step (below_step HBB.out HB3.out) HB5.out⟩
                    | true =>
                      by_cases hpl:p.length<2932031007000
                      · have HN3:Aside0 (code_Decode.l k2 l ((i:Int)+1) (p ++ [mkI (true,g2,g3,g4,g5,g6)])=some q):=⟨by have:=HN2.out;simpa [hpl] using this⟩
                        have HRG:=Aside0.mk (Kd.R_below (Kd.R_mono (ok':=fun k=>k ≠ w3.heap.size) (Kd.R_bound HR3.out) (fun k hk=>Nat.ne_of_lt hk.2.2.1)) HB5.out)
                        have HPL:=Aside0.mk hpl
                        have y0:w5.cell? ⟨w3.heap.size,0,none⟩=some (.int .i64 g2):=by rw [Lib.cell_of_heap HI5.out.1];rfl
                        have y1:w5.cell? ⟨w3.heap.size,1,none⟩=some (.int .i64 g3):=by rw [Lib.cell_of_heap HI5.out.1];rfl
                        have y2:w5.cell? ⟨w3.heap.size,2,none⟩=some (.int .i64 g4):=by rw [Lib.cell_of_heap HI5.out.1];rfl
                        have y3:w5.cell? ⟨w3.heap.size,3,none⟩=some (.int .i64 g5):=by rw [Lib.cell_of_heap HI5.out.1];rfl
                        have y4:w5.cell? ⟨w3.heap.size,4,none⟩=some (.string g6):=by rw [Lib.cell_of_heap HI5.out.1];rfl
                        clear HN2 HR3 hpl;go_wp2_with (at_builtin;refine Kd.R_append k42 (w0:=w1) w1.heap.size rfl _ _ 23 42 (.agg #[(.int .i64 0),(.int .i64 0),(.int .i64 0),(.int .i64 0),(.string ⟨#[]⟩)]) 48 rfl Tryz.underlying23 info42 rfl (by decide) (by omega) _ p (mkI (true,g2,g3,g4,g5,g6)) [.int .i64 g2,.int .i64 g3,.int .i64 g4,.int .i64 g5,.string g6] (fun k=>k ≠ w3.heap.size) (fun _=>False) rfl rfl (k42_mkM _ _ _ _) (fun _ hk=>hk.elim) ?aF ?aO ?aB ?aS ?aL ?_)
                        case aF=>exact fun k hk=>by have:=HI5.out.lt;omega
                        case aO=>exact HRG.out
                        case aB=>exact below_step HB3.out HB5.out
                        case aS=>exact Nat.le_trans HB3.out.size HB5.out.size
                        case aL=>have:=HPL.out;omega
                        intro v6 w6 ho6 hb6 hg6 hat6
                        have HO6:=Aside0.mk (Kd.R_mono (ok':=fun _=>True) ho6 (fun _ _=>trivial))
                        have HB6:=Aside0.mk hb6
                        clear ho6 hb6 hg6 hat6 HRG HPL HI5 HB5;go_wp2
                        go_roundg k2
                        case measure=>omega
                        case rel=>exact ⟨i+1,_,by go_num,⟨by omega⟩,HN3,HO6,HB6⟩
                      · exact absurd HN2.out (by simp [hpl])
                · have hq0:q=none:=by have:=HN.out;simpa [hn6] using this.symm
                  subst hq0;have HH2:=HH.out
                  simp only [Option.some.injEq,Prod.mk.injEq] at HH2
                  obtain ⟨e1,e2⟩:=HH2
                  subst e1 e2
                  have b6:decide (6≤n)=true:=decide_eq_true (by omega)
                  clear HN HR3 hn6;go_wp2
                  go_ret2
                  exact ⟨_,rfl,Kd.R_nil _ _ _ _ _,below_alloc (below_step HBB.out HB3.out) _⟩
          · rw [if_neg hlt] at H
            obtain rfl:=Option.some.inj H
            clear H;have HH2:=HH.out
            dsimp only at HH2
            obtain ⟨v,hv,HH2⟩:=Option.bind_eq_some_iff.1 HH2
            have HV:=Aside0.mk hv
            obtain ⟨A6,c6,rfl,hcap6,hC6⟩:=Kd.R_reads HR.out
            have HC6:=Aside0.mk hC6
            have HCAP:=Aside0.mk hcap6
            have t3:decide ((i:Int)<(l.length:Int))=false:=decide_eq_false hlt
            have t4:decide (i<l.length)=false:=decide_eq_false (by omega)
            clear hv hcap6 hC6 hlt;go_wp2_with fail
            refine (code_Valid.calls k _ _ p v _ HC6.out HCAP.out HV.out).mono ?_
            rintro e w7 ⟨rfl,hb7⟩
            have HB7:=Aside0.mk hb7
            clear hb7;cases v with
            | false =>
              simp only [Bool.false_eq_true,if_false,Option.some.injEq,Prod.mk.injEq] at HH2
              obtain ⟨e1,e2⟩:=HH2
              subst e1 e2
              go_wp2
              go_ret2
              exact ⟨_,rfl,Kd.R_nil _ _ _ _ _,below_step (below_step HBB.out HB.out) HB7.out⟩
            | true =>
              simp only [if_true,Option.some.injEq,Prod.mk.injEq] at HH2
              obtain ⟨e1,e2⟩:=HH2
              subst e1 e2
              go_wp2
              go_ret2
              exact ⟨_,rfl,Kd.R_lower (Kd.R_below HR.out HB7.out) HBB.out.size,below_step (below_step HBB.out HB.out) HB7.out⟩
end Go.Proofs.YtfckjfoalpkpjaaGreatDoor.C
