import Derived.Test.YtfckjfoalpkpjaaGreatDoorH0
import Derived.Test.YtfckjfoalpkpjaaGreatDoorF46
import Derived.Test.YtfckjfoalpkpjaaGreatDoorF48
namespace Go.Proofs.YtfckjfoalpkpjaaGreatDoor.C
open Go.RowKit Go.Proofs.YtfckjfoalpkpjaaGreatDoorW.PrintWords Go.Proofs.YtfckjfoalpkpjaaGreatDoorW.PrintLast Go.Proofs.YtfckjfoalpkpjaaGreatDoorW.PrintMore
def tree_Items.l:Nat→ByteArray→List ByteArray→Option (List ByteArray)
  | 0,_,_=>none
  | k+1,s,out=>if s.toList=([48]:List UInt8) then some out else (tree_parts.f s).bind fun t=>if out.length<8796093022000 then tree_Items.l k t.2 (out ++ [t.1]) else none
def tree_Items.f (k:Nat) (a0:ByteArray):Option (List ByteArray × Int) :=
  (tree_Valid.f a0).bind fun v=>if v=true then (tree_Items.l k a0 []).bind fun o=>some (o,0) else some ([],1)
set_option maxHeartbeats 1000000 in
set_option maxRecDepth 100000 in
theorem items_next (s hd tl:ByteArray) (B base:Nat) (v:Value) (xs:List ByteArray) (w:World) (hp:tree_parts.f s=some (hd,tl)) (hxs:xs.length<8796093022000)
    (hb:w.heap[B]? = some (.cells #[v] 36 (0,0))) (ho:Kd.R Kd.string 9 w base (fun _=>True) v xs) (hB:base≤B) :
    Calls Tryz.prog 47 #[.string s,.pointer (some ⟨B,0,none⟩)] w fun e w'=>e = .returned (.string tl) ∧ ∃ v',w'.heap[B]? = some (.cells #[v'] 36 (0,0))∧Kd.R Kd.string 9 w' base (fun _=>True) v' (xs ++ [hd])∧Below base w w':=by
  have hlt:B<w.heap.size:=(Array.getElem?_eq_some_iff.1 hb).1
  obtain ⟨A,c,rfl⟩:=Kd.R_slice ho
  go_enter Tryz.func47,Tryz.ntmps47
  go_wp2_with (go_at_call 48;refine (tree_parts.calls s hd tl _ hp).mono ?_)
  rintro e w1 ⟨rfl,hb1⟩
  have hb2:w1.heap[B]? = some (.cells #[.slice A xs.length c] 36 (0,0)):=(hb1.block B hlt).trans hb
  have c0:w1.cell? ⟨B,0,none⟩=some (.slice A xs.length c):=by rw [Lib.cell_of_heap hb2];rfl
  have ho1:=Aside0.mk (Kd.R_below ho hb1)
  have HB1:=Aside0.mk (hb1.mono (show base≤w.heap.size by omega))
  have hlt1:B<w1.heap.size:=(Array.getElem?_eq_some_iff.1 hb2).1
  have HB2:=Aside0.mk hb2
  have hne:=Aside0.mk (Kd.R_ne ho1.out hb2 (show 9 ≠ 36 by decide))
  clear hb ho hb1 hb2;go_wp2_with (at_builtin;refine Kd.R_append Kd.string (w0:=w1) base rfl _ _ 36 9 (.string ⟨#[]⟩) 16 rfl Tryz.underlying36 info9 rfl (by decide) (by omega) (.slice A xs.length c) xs hd [.string hd] (fun _=>True) (fun _=>False) rfl rfl rfl (fun _ h=>h.elim) (fun _ _=>trivial) ho1.out (Below.refl _ _) ?cb ?cl ?_)
  case cb=>omega
  case cl=>omega
  intro v1 w2 ho2 hb3 hg hat
  have hb4:w2.heap[B]? = some (.cells #[.slice A xs.length c] 36 (0,0)):=by
    rw [hg.block B hlt1 hne.out];exact HB2.out
  have d0:w2.cell? ⟨B,0,none⟩=some (.slice A xs.length c):=by rw [Lib.cell_of_heap hb4];rfl
  have f1:w2.frozen? ⟨B,0,none⟩=false:=Lib.frozen_of_heap hb4 0
  obtain ⟨A',c',rfl⟩:=Kd.R_slice ho2
  have HG:=Aside0.mk hg
  have HB3:=Aside0.mk hb3
  have HO2:=Aside0.mk ho2
  have HAT:=Aside0.mk hat
  have HB4:=Aside0.mk hb4
  clear hg hb3 ho2 hat hb4;go_wp2
  go_ret
  refine ⟨rfl,_,?_,Kd.R_set HO2.out HB4.out (by intro q hq;simp [Kd.string,Kd.scalar] at hq;subst hq;decide) 0 _,(HB1.out.trans HB3.out).setCell (p:=⟨B,0,none⟩) hB _⟩
  simpa using blk_set HB4.out 0 _
theorem tree_Items.l_mono : ∀ k s out,LeO (tree_Items.l k s out) (tree_Items.l (k+1) s out):=by
  intro k
  induction k with
  | zero=>intro s out r h;simp [tree_Items.l] at h
  | succ k ih =>
    intro s out
    rw [tree_Items.l,tree_Items.l]
    refine LeO.ite (LeO.refl _) (LeO.bind (LeO.refl _) (fun t=>LeO.ite (ih _ _) (LeO.refl _)))
theorem tree_Items.mono : ∀ a0 k,LeO (tree_Items.f k a0) (tree_Items.f (k+1) a0):=by
  intro a0 k
  unfold tree_Items.f
  exact LeO.bind (LeO.refl _) (fun v=>LeO.ite (LeO.bind (tree_Items.l_mono _ _ _) (fun _=>LeO.refl _)) (LeO.refl _))
set_option maxHeartbeats 1000000 in
set_option maxRecDepth 100000 in
theorem tree_Items.calls (k:Nat) (a0:ByteArray) (r1:List ByteArray) (r2:Int) (w:World) (h:tree_Items.f k a0=some (r1,r2)) :
    Calls Tryz.prog 18 #[.string a0] w fun e w' => ∃ v0_:Value,e = .returned (.tuple #[v0_,.int .i64 r2])∧Kd.R Kd.string 9 w' w.heap.size (fun _=>True) v0_ r1∧Below w.heap.size w w':=by
  unfold tree_Items.f at h
  obtain ⟨vl,hv,h⟩:=Option.bind_eq_some_iff.1 h
  cases vl with
  | false =>
    simp only [Bool.false_eq_true,if_false,Option.some.injEq,Prod.mk.injEq] at h
    obtain ⟨e1,e2⟩:=h
    subst e1 e2
    go_enter Tryz.func18,Tryz.ntmps18
    go_wp2_with (go_at_call 46;refine (tree_Valid.calls a0 false _ hv).mono ?_;rintro e w1 ⟨rfl,hb1⟩)
    go_ret2
    exact ⟨_,rfl,Kd.R_nil _ _ _ _ _,‹Below _ _ _›⟩
  | true =>
    simp only [if_true] at h
    obtain ⟨o,ho,h⟩:=Option.bind_eq_some_iff.1 h
    simp only [Option.some.injEq,Prod.mk.injEq] at h
    obtain ⟨e1,e2⟩:=h
    subst e1 e2
    have HO:=Aside0.mk ho
    clear ho;go_enter Tryz.func18,Tryz.ntmps18
    go_wp2_with (go_at_call 46;refine (tree_Valid.calls a0 true _ hv).mono ?_;rintro e w1 ⟨rfl,hb1⟩)
    have HBB:=Aside0.mk ‹Below w.heap.size w w1›
    clear hb1;go_loopg [0] k (fun kq v0 wr => ∃ (x:ByteArray) (xs:List ByteArray) (v:Value),v0 = .string x∧Aside0 (tree_Items.l kq x xs=some o)∧Aside0 (wr.heap[w1.heap.size]? = some (.cells #[v] 36 (0,0)))∧Aside0 (Kd.R Kd.string 9 wr w.heap.size (fun _=>True) v xs)∧Aside0 (Below w.heap.size w wr))
    case atStart=>exact ⟨a0,[],_,rfl,HO,⟨heap_alloc_new w1 _⟩,⟨Kd.R_nil _ _ _ _ _⟩,⟨HBB.out.alloc HBB.out.size _⟩⟩
    case round =>
      clear HO;obtain ⟨x,xs,v,rfl,HA,HC,HR,HW⟩:=hrel
      cases gk with
      | zero=>exact absurd HA.out (by simp [tree_Items.l])
      | succ k2 =>
        have H:=HA.out
        clear HA;rw [tree_Items.l] at H
        obtain ⟨A,c,rfl⟩:=Kd.R_slice HR.out
        by_cases hx:x.toList=([48]:List UInt8)
        · rw [if_pos hx] at H
          obtain rfl:=Option.some.inj H
          have t1:(x.toList == ([48]:List UInt8))=true:=by rw [hx];rfl
          have t2:(x.toList != ([48]:List UInt8))=false:=by rw [hx];rfl
          clear H hx;have c0:wr.cell? ⟨w1.heap.size,0,none⟩=some (.slice A xs.length c):=by rw [Lib.cell_of_heap HC.out];rfl
          go_wp2
          go_ret2
          exact ⟨_,rfl,HR.out,HW.out⟩
        · rw [if_neg hx] at H
          obtain ⟨⟨hd,tl⟩,hp,H⟩:=Option.bind_eq_some_iff.1 H
          by_cases hlim:xs.length<8796093022000
          · rw [if_pos hlim] at H
            have HN:=Aside0.mk H
            have HX:=Aside0.mk hp
            have HLM:=Aside0.mk hlim
            clear H hp hlim;have t1:(x.toList == ([48]:List UInt8))=false:=beq_eq_false_iff_ne.2 hx
            have t2:(x.toList != ([48]:List UInt8))=true:=bne_iff_ne.2 hx
            clear hx;go_wp2_with (go_at_call 47;refine (items_next x hd tl w1.heap.size w.heap.size _ xs _ HX.out HLM.out HC.out HR.out HBB.out.size).mono ?_;rintro e w2 ⟨rfl,v',hc,hr,hw⟩)
            go_roundg k2
            case measure=>omega
            case rel=>exact ⟨tl,xs ++ [hd],v',rfl,HN,⟨hc⟩,⟨hr⟩,⟨HW.out.trans hw⟩⟩
          · rw [if_neg hlim] at H
            cases H
end Go.Proofs.YtfckjfoalpkpjaaGreatDoor.C
