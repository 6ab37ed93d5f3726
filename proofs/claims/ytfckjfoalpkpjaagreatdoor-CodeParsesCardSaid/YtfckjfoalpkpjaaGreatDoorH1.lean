import Derived.Test.YtfckjfoalpkpjaaGreatDoorT0
import Derived.Lib.Strings
import Derived.Lib.IndexBytes
namespace Go.Proofs.YtfckjfoalpkpjaaGreatDoor.C
open Go.RowKit Go.Proofs.YtfckjfoalpkpjaaGreatDoorW.PrintWords Go.Proofs.YtfckjfoalpkpjaaGreatDoorW.PrintLast Go.Proofs.YtfckjfoalpkpjaaGreatDoorW.PrintMore
def endL:List UInt8→Nat→Nat→Option Nat
  | [],_,_=>none
  | c :: cs,o,p=>if c=48 then (if o=1 then some (p+1) else endL cs (o - 1) (p+1)) else if c=49 then endL cs (o+1) (p+1) else none
def tree_end.f (a0:ByteArray) (a1:Int):Option (Int × Bool) :=
  if 0≤a1∧a1≤(a0.size:Int)∧a0.size≤4611686018427387904 then
    some (match endL (a0.data.toList.drop a1.toNat) 1 a1.toNat with|some p=>((p:Int),true)|none=>(0,false))
  else none
theorem ext_list (s:ByteArray) (n:Nat):(s.extract n s.size).data.toList=s.data.toList.drop n:=by
  simp [List.take_of_length_le]
theorem drop_at (l:List UInt8) (p:Nat) (h:p<l.length):l.drop p=l[p] :: l.drop (p+1):=List.drop_eq_getElem_cons h
set_option maxHeartbeats 1000000 in
set_option maxRecDepth 100000 in
theorem tree_end.calls (a0:ByteArray) (a1:Int) (r1:Int) (r2:Bool) (w:World) (h:tree_end.f a0 a1=some (r1,r2)) :
    Calls Tryz.prog 75 #[.string a0,.int .i64 a1] w fun e w'=>e = .returned (.tuple #[.int .i64 r1,.bool r2])∧Below w.heap.size w w':=by
  unfold tree_end.f at h
  split at h
  case isFalse=>cases h
  case isTrue hc =>
  obtain ⟨h0,h1,h2⟩:=hc
  obtain ⟨n,rfl⟩:=Int.eq_ofNat_of_zero_le h0
  have hn:n≤a0.size:=by omega
  have HR:=Aside0.mk h
  clear h h1;have h1:(n:Int)≤(a0.size:Int):=by omega
  go_enter Tryz.func75,Tryz.ntmps75
  go_wp2
  have hsz:(a0.extract n a0.size).size=a0.size - n:=by simp
  have hql:(a0.extract n a0.size).data.toList=a0.data.toList.drop n:=ext_list a0 n
  generalize a0.extract n a0.size=q at *
  have HR':=HR.out
  rw [Int.toNat_natCast,← hql] at HR'
  have hqs:q.data.toList.length=q.size:=by simp
  have hq2:q.size≤4611686018427387904 - n:=by omega
  have HL:=Aside0.mk hqs
  have HS:=Aside0.mk HR'
  have HZ:=Aside0.mk hsz
  clear hql hsz hqs HR HR';go_loopw [6] (fun v wr => ∃ pos o:Nat,wr=w.iter q pos∧v = .int .i64 (o:Int)∧1≤o∧o≤pos+1∧pos≤q.size∧Aside0 (some (match endL (q.data.toList.drop pos) o (n+pos) with|some p=>((p:Int),true)|none=>(0,false))=some (r1,r2))) (fun _ wr=>q.size - wr.iterPos w.heap.size)
  case atStart=>exact ⟨0,1,rfl,rfl,by omega,by omega,by omega,by simpa using HS⟩
  case round =>
    clear HS;obtain ⟨pos,o,rfl,rfl,ho1,ho2,hp,HE⟩:=hrel
    by_cases hlt:pos<q.size
    · have hd:=drop_at q.data.toList pos (by rw [HL.out];exact hlt)
      have hc0:q.data.toList[pos]'(by rw [HL.out];exact hlt)=q[pos]:=by simp;rfl
      rw [hc0] at hd
      have HE':=HE.out
      rw [hd] at HE'
      simp only [endL] at HE'
      clear hd hc0 HE;have hnx0 : ∀ ty,(Instr.next (.pointer (some ⟨w.heap.size,0,none⟩)) true ty).run Tryz.prog (w.iter q pos)=_:=fun ty=>run_next_any w q pos ty hlt
      have hasc:=decode_ascii q pos hlt
      have hhi:=decode_high q pos hlt
      generalize q[pos]=c at *
      by_cases c48:c=48
      · subst c48
        rw [hasc (by decide)] at hnx0
        have hnx : ∀ ty,(Instr.next (.pointer (some ⟨w.heap.size,0,none⟩)) true ty).run Tryz.prog (w.iter q pos) = .ok (.tuple #[.bool true,.int .i64 pos,.int .i32 48]) (w.iter q (pos+1)):=fun ty=>hnx0 ty
        clear hnx0 hasc hhi;rw [if_pos rfl] at HE'
        by_cases o1:o=1
        · subst o1
          rw [if_pos rfl] at HE'
          simp only [Option.some.injEq,Prod.mk.injEq] at HE'
          obtain ⟨e1,e2⟩:=HE'
          subst e1 e2
          go_wp2
          go_ret2
          exact ⟨by simp,(Below.refl _ _).alloc (Nat.le_refl _) _⟩
        · rw [if_neg o1] at HE'
          have HN:=Aside0.mk HE'
          clear HE';have t0:((o:Int) - 1 == 0)=false:=beq_eq_false_iff_ne.2 (by omega)
          go_wp2
          go_roundw
          case rel=>exact ⟨pos+1,o - 1,rfl,by rw [show ((o - 1:Nat):Int)=(o:Int) - 1 from by omega],by omega,by omega,by omega,HN⟩
          case measure=>simp;omega
      · rw [if_neg c48] at HE'
        by_cases c49:c=49
        · subst c49
          rw [hasc (by decide)] at hnx0
          have hnx : ∀ ty,(Instr.next (.pointer (some ⟨w.heap.size,0,none⟩)) true ty).run Tryz.prog (w.iter q pos) = .ok (.tuple #[.bool true,.int .i64 pos,.int .i32 49]) (w.iter q (pos+1)):=fun ty=>hnx0 ty
          clear hnx0 hasc hhi;rw [if_pos rfl] at HE'
          have HN:=Aside0.mk HE'
          clear HE';have t0:((o:Int)+1 == 0)=false:=beq_eq_false_iff_ne.2 (by omega)
          go_wp2
          go_roundw
          case rel=>exact ⟨pos+1,o+1,rfl,by go_num,by omega,by omega,by omega,HN⟩
          case measure=>simp;omega
        · rw [if_neg c49] at HE'
          simp only [Option.some.injEq,Prod.mk.injEq] at HE'
          obtain ⟨e1,e2⟩:=HE'
          subst e1 e2
          have hr : ∃ r wd:Nat,Utf8.decode q pos=(r,wd)∧r ≠ 48∧r ≠ 49:=by
            clear hnx0;generalize Utf8.decode q pos=d at *
            refine ⟨d.1,d.2,rfl,?_⟩
            by_cases hb:c.toNat<128
            · rw [hasc hb]
              refine ⟨fun e=>c48 ?_,fun e=>c49 ?_⟩<;>(apply UInt8.toNat_inj.1;simpa using e)
            · have:=(hhi (by omega)).1
              omega
          obtain ⟨r,wd,hde,r48,r49⟩:=hr
          rw [hde] at hnx0
          have hnx : ∀ ty,(Instr.next (.pointer (some ⟨w.heap.size,0,none⟩)) true ty).run Tryz.prog (w.iter q pos) = .ok (.tuple #[.bool true,.int .i64 pos,.int .i32 (r:Int)]) (w.iter q (pos+wd)):=fun ty=>hnx0 ty
          clear hnx0 hasc hhi hde;have t1:((r:Int) == 48)=false:=beq_eq_false_iff_ne.2 (by omega)
          have t2:((r:Int) == 49)=false:=beq_eq_false_iff_ne.2 (by omega)
          go_wp2
          go_ret2
          exact ⟨rfl,(Below.refl _ _).alloc (Nat.le_refl _) _⟩
    · have hnx : ∀ ty,(Instr.next (.pointer (some ⟨w.heap.size,0,none⟩)) true ty).run Tryz.prog (w.iter q pos)=_:=fun ty=>run_next_end w q pos ty hlt
      have hnil:q.data.toList.drop pos = []:=List.drop_eq_nil_of_le (by rw [HL.out];omega)
      have HE':=HE.out
      rw [hnil] at HE'
      simp only [endL,Option.some.injEq,Prod.mk.injEq] at HE'
      obtain ⟨e1,e2⟩:=HE'
      subst e1 e2
      clear hnil HE;go_wp2
      go_ret2
      exact ⟨rfl,(Below.refl _ _).alloc (Nat.le_refl _) _⟩
end Go.Proofs.YtfckjfoalpkpjaaGreatDoor.C
