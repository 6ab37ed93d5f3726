import Derived.Test.YtfckjfoalpkpjaaGreatDoorH1
import Derived.Test.YtfckjfoalpkpjaaGreatDoorF46
import Derived.Test.YtfckjfoalpkpjaaGreatDoorF48
import Derived.Test.YtfckjfoalpkpjaaGreatDoorH7
import Derived.Lib.Repeat
import Derived.Test.YtfckjfoalpkpjaaGreatDoorH6
import Derived.Lib.SplitLaws
import Derived.Lib.AtoiAll
import Derived.Lib.ItoaNum
import Derived.Lib.IndexMore
import Derived.Lib.IndexLaws
import Derived.Test.YtfckjfoalpkpjaaGreatDoorHB
import Derived.Lib.ItoaLen
import Derived.Test.YtfckjfoalpkpjaaGreatDoorT0
import Derived.Test.YtfckjfoalpkpjaaGreatDoorH0
import Derived.Test.YtfckjfoalpkpjaaGreatDoorF12
import Derived.Test.YtfckjfoalpkpjaaGreatDoorF23
set_option linter.unusedSimpArgs false
set_option linter.unusedVariables false
section
namespace Go.Proofs.YtfckjfoalpkpjaaGreatDoor.Plain
open Go.Proofs.YtfckjfoalpkpjaaGreatDoor.C (endL)
inductive Tr where
  | nil
  | cons (a b:Tr)
def Tr.enc:Tr→List UInt8
  | .nil => [48]
  | .cons a b=>49 :: (a.enc ++ b.enc)
def IsT (l:List UInt8):Prop := ∃ t:Tr,l=t.enc
theorem isT_nil:IsT [48]:=⟨.nil,rfl⟩
theorem isT_cons {a b:List UInt8} (ha:IsT a) (hb:IsT b):IsT (49 :: (a ++ b)):=by
  obtain ⟨t,rfl⟩:=ha
  obtain ⟨u,rfl⟩:=hb
  exact ⟨.cons t u,rfl⟩
theorem isT_cases {l:List UInt8} (h:IsT l):l = [48] ∨ ∃ a b,IsT a∧IsT b∧l=49 :: (a ++ b):=by
  obtain ⟨t,rfl⟩:=h
  cases t with
  | nil=>exact .inl rfl
  | cons a b=>exact .inr ⟨a.enc,b.enc,⟨a,rfl⟩,⟨b,rfl⟩,rfl⟩
theorem isT_len {l:List UInt8} (h:IsT l):1≤l.length:=by
  obtain ⟨t,rfl⟩:=h
  cases t<;>simp [Tr.enc]
theorem endL_enc (t:Tr) : ∀ (r:List UInt8) (o p:Nat),1≤o→endL (t.enc ++ r) o p=if o=1 then some (p+t.enc.length) else endL r (o - 1) (p+t.enc.length):=by
  induction t with
  | nil =>
    intro r o p ho
    simp [Tr.enc,endL]
  | cons a b iha ihb =>
    intro r o p ho
    have h1:endL ((Tr.cons a b).enc ++ r) o p=endL (a.enc ++ (b.enc ++ r)) (o+1) (p+1):=by
      simp [Tr.enc,endL]
    rw [h1,iha _ _ _ (by omega),if_neg (by omega),Nat.add_sub_cancel,ihb _ _ _ ho]
    have:p+1+a.enc.length+b.enc.length=p+(Tr.cons a b).enc.length:=by simp [Tr.enc];omega
    rw [this]
theorem endL_tree {a:List UInt8} (h:IsT a) (r:List UInt8) (p:Nat):endL (a ++ r) 1 p=some (p+a.length):=by
  obtain ⟨t,rfl⟩:=h
  rw [endL_enc t r 1 p (Nat.le_refl _),if_pos rfl]
theorem endL_forest : ∀ (l:List UInt8) (o p q:Nat),1≤o→endL l o p=some q → ∃ ts:List Tr,ts.length=o ∧ ∃ r,l=ts.flatMap Tr.enc ++ r∧q=p+(ts.flatMap Tr.enc).length:=by
  intro l
  induction l with
  | nil=>intro o p q _ h;simp [endL] at h
  | cons c cs ih =>
    intro o p q ho h
    simp only [endL] at h
    by_cases h48:c=48
    · subst h48
      rw [if_pos rfl] at h
      by_cases h1:o=1
      · subst h1
        rw [if_pos rfl] at h
        exact ⟨[.nil],rfl,cs,by simp [Tr.enc],by simp [Tr.enc];simpa using h.symm⟩
      · rw [if_neg h1] at h
        obtain ⟨ts,hl,r,e,hq⟩:=ih _ _ _ (by omega) h
        refine ⟨.nil :: ts,by simp;omega,r,by simp [Tr.enc,e],?_⟩
        rw [List.flatMap_cons,List.length_append]
        show q=p+(1+_)
        omega
    · rw [if_neg h48] at h
      by_cases h49:c=49
      · subst h49
        rw [if_pos rfl] at h
        obtain ⟨ts,hl,r,e,hq⟩:=ih _ _ _ (by omega) h
        match ts,hl with
        | a :: b :: ts,hl =>
          refine ⟨.cons a b :: ts,by simp at hl ⊢;omega,r,by simp [Tr.enc,e],?_⟩
          rw [List.flatMap_cons,List.flatMap_cons,List.length_append,List.length_append] at hq
          rw [List.flatMap_cons,List.length_append]
          simp only [Tr.enc,List.length_cons,List.length_append]
          omega
        | [a],hl=>simp at hl;omega
        | [],hl=>simp at hl
      · rw [if_neg h49] at h;cases h
theorem endL_some {l:List UInt8} {p q:Nat} (h:endL l 1 p=some q) : ∃ a r,IsT a∧l=a ++ r∧q=p+a.length:=by
  obtain ⟨ts,hl,r,e,hq⟩:=endL_forest l 1 p q (Nat.le_refl _) h
  match ts,hl with
  | [t],_=>exact ⟨t.enc,r,⟨t,rfl⟩,by simpa using e,by simpa using hq⟩
theorem isT_split {a b r s:List UInt8} (ha:IsT a) (hb:IsT b) (h:a ++ r=b ++ s):a=b∧r=s:=by
  have h1:=endL_tree ha r 0
  have h2:=endL_tree hb s 0
  rw [h] at h1
  have hl:a.length=b.length:=by
    have:=h1.symm.trans h2
    simpa using this
  exact List.append_inj h hl
theorem isT_iff {l:List UInt8}:IsT l↔endL l 1 0=some l.length:=by
  constructor
  · intro h
    have:=endL_tree h [] 0
    simpa using this
  · intro h
    obtain ⟨a,r,ha,e,hq⟩:=endL_some h
    have:r = []:=by
      have:=congrArg List.length e
      simp at this
      exact List.length_eq_zero_iff.1 (by omega)
    subst this;simpa [e] using ha
def num:Nat→List UInt8
  | 0 => [48]
  | n+1=>49 :: 48 :: num n
theorem isT_num : ∀ n,IsT (num n)
  | 0=>isT_nil
  | n+1=>isT_cons (a:=[48]) isT_nil (isT_num n)
theorem num_length : ∀ n,(num n).length=2 * n+1
  | 0=>rfl
  | n+1=>by simp [num,num_length n];omega
theorem num_inj {n m:Nat} (h:num n=num m):n=m:=by
  have:=congrArg List.length h
  rw [num_length,num_length] at this
  omega
def lst:List (List UInt8)→List UInt8
  | [] => [48]
  | s :: l=>49 :: (s ++ lst l)
theorem isT_lst : ∀ l:List (List UInt8),(∀ s ∈ l,IsT s)→IsT (lst l)
  | [],_=>isT_nil
  | s :: l,h=>isT_cons (h s (by simp)) (isT_lst l (fun x hx=>h x (by simp [hx])))
theorem lst_of_isT (t:Tr) : ∃ l:List (List UInt8),(∀ s ∈ l,IsT s)∧t.enc=lst l:=by
  induction t with
  | nil=>exact ⟨[],by simp,rfl⟩
  | cons a b _ ih =>
    obtain ⟨l,h,e⟩:=ih
    refine ⟨a.enc :: l,fun s hs=>?_,by simp [Tr.enc,lst,e]⟩
    rcases List.mem_cons.1 hs with rfl|hs
    · exact ⟨a,rfl⟩
    · exact h s hs
theorem isT_lst_of {l:List UInt8} (h:IsT l) : ∃ xs:List (List UInt8),(∀ s ∈ xs,IsT s)∧l=lst xs:=by
  obtain ⟨t,rfl⟩:=h
  exact lst_of_isT t
theorem lst_inj : ∀ (xs ys:List (List UInt8)),(∀ s ∈ xs,IsT s)→(∀ s ∈ ys,IsT s)→lst xs=lst ys→xs=ys
  | [],[],_,_,_=>rfl
  | [],_ :: _,_,_,h=>by simp [lst] at h
  | _ :: _,[],_,_,h=>by simp [lst] at h
  | x :: xs,y :: ys,hx,hy,h=>by
    simp only [lst,List.cons.injEq,true_and] at h
    obtain ⟨e1,e2⟩:=isT_split (hx x (by simp)) (hy y (by simp)) h
    rw [e1,lst_inj xs ys (fun s hs=>hx s (by simp [hs])) (fun s hs=>hy s (by simp [hs])) e2]
end Go.Proofs.YtfckjfoalpkpjaaGreatDoor.Plain
end
section
namespace Go.Proofs.YtfckjfoalpkpjaaGreatDoor.Plain
open Go.Proofs.YtfckjfoalpkpjaaGreatDoor.C
open Go.RowKit Go.Proofs.YtfckjfoalpkpjaaGreatDoorW.PrintWords Go.Proofs.YtfckjfoalpkpjaaGreatDoorW.PrintLast Go.Proofs.YtfckjfoalpkpjaaGreatDoorW.PrintMore
abbrev Ins:=S42
abbrev bl (s:ByteArray):List UInt8:=s.data.toList
def bs (l:List UInt8):ByteArray:=⟨l.toArray⟩
theorem bl_bs (l:List UInt8):bl (bs l)=l:=by simp [bs]
theorem bs_bl (s:ByteArray):bs (bl s)=s:=by simp [bs]
theorem bl_len (s:ByteArray):(bl s).length=s.size:=Array.length_toList
theorem bs_size (l:List UInt8):(bs l).size=l.length:=by rw [← bl_len,bl_bs]
theorem bl_inj {a b:ByteArray} (h:bl a=bl b):a=b:=by rw [← bs_bl a,← bs_bl b,h]
theorem bl_append (a b:ByteArray):bl (a ++ b)=bl a ++ bl b:=by simp [bl]
theorem bs_append (a b:List UInt8):bs a ++ bs b=bs (a ++ b):=bl_inj (by rw [bl_append,bl_bs,bl_bs,bl_bs])
theorem toL (s:ByteArray):s.toList=bl s:=Go.ByteArray.toList_eq s
theorem bl_extract (s:ByteArray) (a b:Nat):bl (s.extract a b)=((bl s).take b).drop a:=by
  rw [bl,Lib.extract_data,List.drop_take]
theorem eq_bs {s:ByteArray} {l:List UInt8} (h:bl s=l):s=bs l:=by rw [← h,bs_bl]
theorem end_tree {s:ByteArray} {a r:List UInt8} (n:Nat) (hn:n≤s.size) (hz:s.size≤4611686018427387904) (h:(bl s).drop n=a ++ r) (ha:IsT a) :
    tree_end.f s (n:Int)=some (((n+a.length:Nat):Int),true):=by
  unfold tree_end.f
  rw [if_pos (by omega),Int.toNat_natCast]
  have:endL (s.data.toList.drop n) 1 n=some (n+a.length):=by
    show endL ((bl s).drop n) 1 n=_
    rw [h];exact endL_tree ha r n
  rw [this]
def ValidT (s:ByteArray):Prop:=s.size≤2000000∧IsT (bl s)
theorem valid_tells (s:ByteArray) : ∃ v,tree_Valid.f s=some v∧(v=true↔ValidT s):=by
  unfold tree_Valid.f ValidT
  by_cases hz:(s.size:Int) > 2000000
  · rw [if_pos hz]
    exact ⟨false,rfl,⟨fun h=>(by cases h),fun h=>(by omega)⟩⟩
  · rw [if_neg hz]
    have hz':s.size≤2000000:=by omega
    unfold tree_end.f
    rw [if_pos (by omega)]
    simp only [Int.toNat_zero,List.drop_zero,Option.bind_some]
    cases he:endL s.data.toList 1 0 with
    | none =>
      refine ⟨false,by simp,?_⟩
      constructor
      · intro h;cases h
      · intro ⟨_,h⟩
        rw [isT_iff] at h
        rw [show bl s=s.data.toList from rfl,he] at h
        cases h
    | some q =>
      refine ⟨((q:Int) == (s.size:Int)),by simp,?_⟩
      rw [beq_iff_eq]
      constructor
      · intro h
        refine ⟨hz',isT_iff.2 ?_⟩
        rw [bl_len]
        show endL s.data.toList 1 0=_
        rw [he]
        congr 1
        omega
      · intro ⟨_,h⟩
        rw [isT_iff,bl_len] at h
        have:=he.symm.trans h
        simp at this
        omega
theorem valid_yes {s:ByteArray} (h:ValidT s):tree_Valid.f s=some true:=by
  obtain ⟨v,e,hv⟩:=valid_tells s
  rw [e,hv.2 h]
theorem valid_no {s:ByteArray} (h : ¬ ValidT s):tree_Valid.f s=some false:=by
  obtain ⟨v,e,hv⟩:=valid_tells s
  cases v with
  | false=>exact e
  | true=>exact absurd (hv.1 rfl) h
theorem parts_cons {s:ByteArray} {a b:List UInt8} (ha:IsT a) (hz:s.size≤2000000) (h:bl s=49 :: (a ++ b)):tree_parts.f s=some (bs a,bs b):=by
  have hl:=congrArg List.length h
  rw [bl_len,List.length_cons,List.length_append] at hl
  unfold tree_parts.f
  rw [toL,h,if_neg (by simp)]
  have he:=end_tree (s:=s) (a:=a) (r:=b) 1 (by omega) (by omega) (by rw [h];rfl) ha
  rw [show ((1:Nat):Int)=1 from rfl] at he
  rw [he]
  simp only [Option.bind_some]
  rw [if_pos (by omega),if_pos (by omega),if_pos (by omega),Int.toNat_natCast]
  congr 2
  · apply eq_bs
    rw [bl_extract,h]
    simp [Nat.add_comm 1]
  · apply eq_bs
    rw [bl_extract,h,← bl_len,h,List.take_length,Nat.add_comm 1,List.drop_succ_cons,List.drop_left]
end Go.Proofs.YtfckjfoalpkpjaaGreatDoor.Plain
end
section
namespace Go.Proofs.YtfckjfoalpkpjaaGreatDoor.Plain
open Go.Proofs.YtfckjfoalpkpjaaGreatDoor.C
open Go.RowKit Go.Proofs.YtfckjfoalpkpjaaGreatDoorW.PrintWords Go.Proofs.YtfckjfoalpkpjaaGreatDoorW.PrintLast Go.Proofs.YtfckjfoalpkpjaaGreatDoorW.PrintMore
theorem pair_nil {s:ByteArray} (h:bl s = [48]):code_pair.f s=some (bs [],bs [],false):=by
  unfold code_pair.f
  rw [toL,if_pos h]
  rfl
theorem pair_cons {s:ByteArray} {a b:List UInt8} (hz:s.size≤2000000) (ha:IsT a) (hb:IsT b) (h:bl s=49 :: (a ++ b)):code_pair.f s=some (bs a,bs b,true):=by
  have hv:tree_Valid.f s=some true:=valid_yes ⟨hz,by rw [h];exact isT_cons ha hb⟩
  unfold code_pair.f tree_Head.f tree_Tail.f
  rw [toL,h,if_neg (by simp),hv]
  simp only [Option.bind_some,if_true]
  rw [parts_cons ha hz h]
  rfl
theorem pair_no {s:ByteArray} (h : ¬ ValidT s):code_pair.f s=some (bs [],bs [],true):=by
  have hv:tree_Valid.f s=some false:=valid_no h
  unfold code_pair.f tree_Head.f tree_Tail.f
  rw [toL,if_neg (fun e=>h ⟨by rw [← bl_len,e];simp,by rw [e];exact isT_nil⟩),hv]
  rfl
theorem repeat10 (n:Nat):Lib.repeatL [49,48] n ++ [48]=num n:=by
  induction n with
  | zero=>rfl
  | succ n ih=>rw [Lib.repeatL,num,← ih];rfl
theorem repeat_length (n:Nat):(Lib.repeatL [49,48] n).length=2 * n:=by
  have:=congrArg List.length (repeat10 n)
  rw [num_length] at this
  simpa using this
theorem repeat_tells (n:Nat) (h:n≤1000000000):strings_Repeat.f (⟨#[49,48]⟩:ByteArray) (n:Int)=some (bs (Lib.repeatL [49,48] n)):=by
  unfold strings_Repeat.f
  have hsz:(⟨#[49,48]⟩:ByteArray).size * (n:Int).toNat≤140737488355328:=by
    rw [Int.toNat_natCast,lit_size,List.size_toArray]
    simp only [List.length_cons,List.length_nil]
    omega
  rw [if_pos ⟨by omega,by omega,hsz⟩,Int.toNat_natCast]
  rfl
theorem lit48:(⟨#[48]⟩:ByteArray)=bs [48]:=rfl
theorem number_tells (n:Nat) (h:n≤1000000000):code_number.f (n:Int)=some (bs (num n)):=by
  unfold code_number.f
  rw [repeat_tells n h,Option.bind_some,bs_size,repeat_length,if_pos (by omega),lit48,bs_append,repeat10]
theorem wrap_small {x:Int} (h1 : -9223372036854775808≤x) (h2:x≤9223372036854775807):wrap64 x=x:=by
  unfold wrap64;omega
theorem Value_tells (s:ByteArray) (h:ValidT s):(∃ n:Nat,bl s=num n∧tree_Value.f s=some ((n:Int),0)) ∨ ((∀ n,bl s ≠ num n)∧tree_Value.f s=some (0,4)):=by
  have hz:=h.1
  have e:tree_Value.f s=if bl s=num (s.size / 2) then some (((s.size / 2:Nat):Int),0) else some (0,4):=by
    unfold tree_Value.f
    rw [valid_yes h,Option.bind_some,if_pos rfl,wrap_small (by omega) (by omega),show (s.size:Int) / 2=((s.size / 2:Nat):Int) from by omega]
    rw [repeat_tells _ (by omega),Option.bind_some,bs_size,repeat_length,if_pos (by omega),lit48,bs_append,repeat10,toL,toL,bl_bs]
  rw [e]
  by_cases hh:bl s=num (s.size / 2)
  · exact .inl ⟨_,hh,if_pos hh⟩
  · refine .inr ⟨fun n hn=>hh ?_,if_neg hh⟩
    have:=congrArg List.length hn
    rw [num_length,bl_len] at this
    rw [hn]
    congr 1
    omega
theorem value_num {s:ByteArray} {n:Nat} (hz:s.size≤2000000) (h:bl s=num n):code_value.f s=some ((n:Int),true):=by
  unfold code_value.f
  rcases Value_tells s ⟨hz,by rw [h];exact isT_num n⟩ with ⟨m,hm,e⟩|⟨hno,_⟩
  · rw [e,num_inj (h.symm.trans hm)];rfl
  · exact absurd h (hno n)
theorem value_tells (s:ByteArray) : ∃ m ok,code_value.f s=some (m,ok)∧(ok=true → ∃ n:Nat,m=n∧bl s=num n∧s.size≤2000000):=by
  unfold code_value.f
  by_cases h:ValidT s
  · rcases Value_tells s h with ⟨n,hn,e⟩|⟨_,e⟩
    · exact ⟨n,true,by rw [e];rfl,fun _=>⟨n,rfl,hn,h.1⟩⟩
    · exact ⟨0,false,by rw [e];rfl,fun h=>by cases h⟩
  · refine ⟨0,false,?_,fun h=>by cases h⟩
    unfold tree_Value.f
    rw [valid_no h];rfl
theorem pair_tells (s:ByteArray) : ∃ a b is,code_pair.f s=some (a,b,is)∧(is=true→(bl a = []∧bl b = []) ∨ (s.size≤2000000∧IsT (bl a)∧IsT (bl b)∧bl s=49 :: (bl a ++ bl b))):=by
  by_cases h:ValidT s
  · rcases isT_cases h.2 with e|⟨a,b,ha,hb,e⟩
    · exact ⟨_,_,_,pair_nil e,fun h=>by cases h⟩
    · exact ⟨_,_,_,pair_cons h.1 ha hb e,fun _=>.inr ⟨h.1,by rw [bl_bs];exact ha,by rw [bl_bs];exact hb,by rw [bl_bs,bl_bs];exact e⟩⟩
  · exact ⟨_,_,_,pair_no h,fun _=>.inl ⟨bl_bs _,bl_bs _⟩⟩
theorem num_ne_nil (n:Nat):num n ≠ []:=by cases n<;>simp [num]
def Nice (x:Ins):Prop :=
  0≤x.f1∧x.f1≤1000000 ∧
  (x.f0=0∧x.f2=0∧x.f3=0∧IsT (bl x.f4)∧x.f4.size≤2000000 ∨
   x.f0=2∧0≤x.f2∧x.f2≤1000000∧0≤x.f3∧x.f3≤1000000∧bl x.f4 = [] ∨
   x.f0=5 ∧ -1000000≤x.f2∧x.f2≤1000000∧x.f3=0∧bl x.f4 = [] ∨
   (x.f0=1 ∨ x.f0=3 ∨ x.f0=4)∧0≤x.f2∧x.f2≤1000000∧x.f3=0∧bl x.f4 = [])
def body (x:Ins):List UInt8 :=
  if x.f0=0 then 49 :: (num x.f1.toNat ++ bl x.f4)
  else if x.f0=2 then 49 :: (num x.f1.toNat ++ 49 :: (num x.f2.toNat ++ num x.f3.toNat))
  else if x.f0=5 then (if x.f2<0 then 49 :: (num x.f1.toNat ++ 49 :: ([49,48,48] ++ num (-x.f2).toNat)) else 49 :: (num x.f1.toNat ++ 49 :: ([48] ++ num x.f2.toNat)))
  else 49 :: (num x.f1.toNat ++ num x.f2.toNat)
def item (x:Ins):List UInt8:=49 :: (num x.f0.toNat ++ body x)
theorem isT_100:IsT [49,48,48]:=isT_cons (a:=[48]) isT_nil isT_nil
theorem isT_body {x:Ins} (h:Nice x):IsT (body x):=by
  unfold body
  obtain ⟨_,_,h|h|h|h⟩:=h
  · rw [if_pos h.1];exact isT_cons (isT_num _) h.2.2.2.1
  · rw [if_neg (by omega),if_pos h.1];exact isT_cons (isT_num _) (isT_cons (isT_num _) (isT_num _))
  · rw [if_neg (by omega),if_neg (by omega),if_pos h.1]
    split
    · exact isT_cons (isT_num _) (isT_cons isT_100 (isT_num _))
    · exact isT_cons (isT_num _) (isT_cons isT_nil (isT_num _))
  · rw [if_neg (by omega),if_neg (by omega),if_neg (by omega)];exact isT_cons (isT_num _) (isT_num _)
theorem isT_item {x:Ins} (h:Nice x):IsT (item x):=isT_cons (isT_num _) (isT_body h)
theorem num_small {n:Int} (h0:0≤n) (h1:n≤1000000):code_number.f n=some (bs (num n.toNat))∧(bs (num n.toNat)).size≤2000001:=by
  obtain ⟨m,rfl⟩:=Int.eq_ofNat_of_zero_le h0
  refine ⟨number_tells m (by omega),?_⟩
  rw [bs_size,num_length]
  simp;omega
theorem lit_bs1:(⟨#[49]⟩:ByteArray)=bs [49]:=rfl
theorem put_tells {x:Ins} (h:Nice x):putOf x=some (bs (body x)):=by
  obtain ⟨ha0,ha1,h⟩:=h
  obtain ⟨ea,sa⟩:=num_small ha0 ha1
  unfold putOf body
  rcases h with h|h|h|h
  · rw [if_pos h.1,if_pos h.1]
    unfold code_fields_1.f
    rw [ea]
    simp only [Option.bind_some,lit_bs1,bs_append]
    have:=h.2.2.2.2
    rw [if_pos (by omega),if_pos (by rw [bs_size] at *;simp at *;omega)]
    congr 1
  · obtain ⟨h0,hb0,hb1,hc0,hc1,_⟩:=h
    obtain ⟨eb,sb⟩:=num_small hb0 hb1
    obtain ⟨ec,sc⟩:=num_small hc0 hc1
    rw [if_neg (by omega),if_pos h0,if_neg (by omega),if_pos h0]
    unfold code_fields_3.f
    rw [ea,eb,ec]
    simp only [Option.bind_some,lit_bs1,bs_append]
    simp only [bs_size] at *
    rw [if_pos (by omega),if_pos (by simp;omega),if_pos (by simp;omega),if_pos (by simp;omega)]
    congr 2
    simp
  · obtain ⟨h0,hb0,hb1,hc,_⟩:=h
    rw [if_neg (by omega),if_neg (by omega),if_pos h0,if_neg (by omega),if_neg (by omega),if_pos h0]
    unfold code_fields_5.f
    split
    · rename_i hneg
      obtain ⟨eb,sb⟩:=num_small (n := -x.f2) (by omega) (by omega)
      rw [wrap_small (by omega) (by omega),ea,eb]
      simp only [Option.bind_some,lit_bs1,bs_append,show (⟨#[49,49,48,48]⟩:ByteArray)=bs [49,49,48,48] from rfl]
      simp only [bs_size] at *
      rw [if_pos (by omega),if_pos (by simp;omega),if_pos (by simp;omega)]
      congr 2
      simp
    · rename_i hneg
      obtain ⟨eb,sb⟩:=num_small (n:=x.f2) (by omega) (by omega)
      rw [ea,eb]
      simp only [Option.bind_some,lit_bs1,bs_append,show (⟨#[49,48]⟩:ByteArray)=bs [49,48] from rfl]
      simp only [bs_size] at *
      rw [if_pos (by omega),if_pos (by simp;omega),if_pos (by simp;omega)]
      congr 2
      simp
  · obtain ⟨h0,hb0,hb1,hc,_⟩:=h
    obtain ⟨eb,sb⟩:=num_small hb0 hb1
    rw [if_neg (by omega),if_neg (by omega),if_neg (by omega),if_neg (by omega),if_neg (by omega),if_neg (by omega)]
    unfold code_regs_1.f
    rw [ea,eb]
    simp only [Option.bind_some,lit_bs1,bs_append]
    simp only [bs_size] at *
    rw [if_pos (by omega),if_pos (by simp;omega)]
    congr 2
end Go.Proofs.YtfckjfoalpkpjaaGreatDoor.Plain
end
section
namespace Go.Proofs.YtfckjfoalpkpjaaGreatDoor.Plain
open Go.Proofs.YtfckjfoalpkpjaaGreatDoor.C
open Go.RowKit Go.Proofs.YtfckjfoalpkpjaaGreatDoorW.PrintWords Go.Proofs.YtfckjfoalpkpjaaGreatDoorW.PrintLast Go.Proofs.YtfckjfoalpkpjaaGreatDoorW.PrintMore
theorem ins_eq {x y:Ins} (h0:x.f0=y.f0) (h1:x.f1=y.f1) (h2:x.f2=y.f2) (h3:x.f3=y.f3) (h4:bl x.f4=bl y.f4):x=y:=by
  cases x;cases y
  simp only at h0 h1 h2 h3 h4
  have:=bl_inj h4
  subst h0 h1 h2 h3 this
  rfl
theorem get_yes {x:Ins} (h:Nice x) (hz:(body x).length≤2000000):getOf x.f0 (bs (body x))=some (true,x.f0,x.f1,x.f2,x.f3,x.f4):=by
  have hzs:(bs (body x)).size≤2000000:=by rw [bs_size];exact hz
  have hb:=bl_bs (body x)
  obtain ⟨ha0,ha1,h⟩:=h
  have eA:((x.f1.toNat:Nat):Int)=x.f1:=by omega
  unfold getOf
  rcases h with h|h|h|h
  · obtain ⟨h0,h2,h3,h4,_⟩:=h
    have e:body x=49 :: (num x.f1.toNat ++ bl x.f4):=by unfold body;rw [if_pos h0]
    have hl:=congrArg List.length e
    rw [List.length_cons,List.length_append] at hl
    rw [if_pos h0]
    unfold code_fields_2.f
    rw [pair_cons hzs (isT_num _) h4 (hb.trans e)]
    simp only [Option.bind_some]
    rw [value_num (n:=x.f1.toNat) (by rw [bs_size];omega) (bl_bs _)]
    simp only [Option.bind_some,if_true,bs_bl]
    rw [eA,h2,h3]
  · obtain ⟨h0,hb0,hb1,hc0,hc1,h4⟩:=h
    have e:body x=49 :: (num x.f1.toNat ++ 49 :: (num x.f2.toNat ++ num x.f3.toNat)):=by unfold body;rw [if_neg (by omega),if_pos h0]
    have hl:=congrArg List.length e
    rw [List.length_cons,List.length_append,List.length_cons,List.length_append] at hl
    rw [if_neg (by omega),if_pos h0]
    unfold code_fields_4.f
    rw [pair_cons hzs (isT_num _) (isT_cons (isT_num _) (isT_num _)) (hb.trans e)]
    simp only [Option.bind_some]
    rw [pair_cons (by rw [bs_size,List.length_cons,List.length_append];omega) (isT_num _) (isT_num _) (bl_bs _)]
    simp only [Option.bind_some]
    rw [value_num (n:=x.f1.toNat) (by rw [bs_size];omega) (bl_bs _),value_num (n:=x.f2.toNat) (by rw [bs_size];omega) (bl_bs _),value_num (n:=x.f3.toNat) (by rw [bs_size];omega) (bl_bs _)]
    simp only [Option.bind_some,if_true]
    rw [eA,show ((x.f2.toNat:Nat):Int)=x.f2 from by omega,show ((x.f3.toNat:Nat):Int)=x.f3 from by omega,eq_bs h4]
    rfl
  · obtain ⟨h0,hb0,hb1,hc,h4⟩:=h
    rw [if_neg (by omega),if_neg (by omega),if_pos h0]
    unfold code_fields_6.f
    by_cases hneg:x.f2<0
    · have e:body x=49 :: (num x.f1.toNat ++ 49 :: ([49,48,48] ++ num (-x.f2).toNat)):=by unfold body;rw [if_neg (by omega),if_neg (by omega),if_pos h0,if_pos hneg]
      have hl:=congrArg List.length e
      rw [List.length_cons,List.length_append,List.length_cons,List.length_append] at hl
      rw [pair_cons hzs (isT_num _) (isT_cons isT_100 (isT_num _)) (hb.trans e)]
      simp only [Option.bind_some]
      rw [pair_cons (by rw [bs_size,List.length_cons,List.length_append];omega) isT_100 (isT_num _) (bl_bs _)]
      simp only [Option.bind_some]
      rw [value_num (n:=x.f1.toNat) (by rw [bs_size];omega) (bl_bs _),value_num (n:=(-x.f2).toNat) (by rw [bs_size];omega) (bl_bs _)]
      simp only [Option.bind_some,if_true]
      rw [toL,bl_bs,if_pos rfl,if_neg (by decide),wrap_small (by omega) (by omega)]
      rw [eA,show -(((-x.f2).toNat:Nat):Int)=x.f2 from by omega,hc,eq_bs h4,decide_eq_true (by omega)]
      rfl
    · have e:body x=49 :: (num x.f1.toNat ++ 49 :: ([48] ++ num x.f2.toNat)):=by unfold body;rw [if_neg (by omega),if_neg (by omega),if_pos h0,if_neg hneg]
      have hl:=congrArg List.length e
      rw [List.length_cons,List.length_append,List.length_cons,List.length_append] at hl
      rw [pair_cons hzs (isT_num _) (isT_cons isT_nil (isT_num _)) (hb.trans e)]
      simp only [Option.bind_some]
      rw [pair_cons (by rw [bs_size,List.length_cons,List.length_append];omega) isT_nil (isT_num _) (bl_bs _)]
      simp only [Option.bind_some]
      rw [value_num (n:=x.f1.toNat) (by rw [bs_size];omega) (bl_bs _),value_num (n:=x.f2.toNat) (by rw [bs_size];omega) (bl_bs _)]
      simp only [Option.bind_some,if_true]
      rw [toL,bl_bs,if_neg (by decide),if_pos rfl]
      rw [eA,show ((x.f2.toNat:Nat):Int)=x.f2 from by omega,hc,eq_bs h4]
      rfl
  · obtain ⟨h0,hb0,hb1,hc,h4⟩:=h
    have e:body x=49 :: (num x.f1.toNat ++ num x.f2.toNat):=by unfold body;rw [if_neg (by omega),if_neg (by omega),if_neg (by omega)]
    have hl:=congrArg List.length e
    rw [List.length_cons,List.length_append] at hl
    rw [if_neg (by omega),if_neg (by omega),if_neg (by omega)]
    unfold code_regs_2.f
    rw [pair_cons hzs (isT_num _) (isT_num _) (hb.trans e)]
    simp only [Option.bind_some]
    rw [value_num (n:=x.f1.toNat) (by rw [bs_size];omega) (bl_bs _),value_num (n:=x.f2.toNat) (by rw [bs_size];omega) (bl_bs _)]
    simp only [Option.bind_some,if_true]
    rw [eA,show ((x.f2.toNat:Nat):Int)=x.f2 from by omega,hc,eq_bs h4]
    rfl
theorem body_neg {x:Ins} (h:x.f0=5) (hn:x.f2<0):body x=49 :: (num x.f1.toNat ++ 49 :: ([49,48,48] ++ num (-x.f2).toNat)):=by
  unfold body;rw [if_neg (by omega),if_neg (by omega),if_pos h,if_pos hn]
theorem body_pos {x:Ins} (h:x.f0=5) (hn : ¬ x.f2<0):body x=49 :: (num x.f1.toNat ++ 49 :: ([48] ++ num x.f2.toNat)):=by
  unfold body;rw [if_neg (by omega),if_neg (by omega),if_pos h,if_neg hn]
theorem body_regs {x:Ins} (h0:x.f0 ≠ 0) (h2:x.f0 ≠ 2) (h5:x.f0 ≠ 5):body x=49 :: (num x.f1.toNat ++ num x.f2.toNat):=by
  unfold body;rw [if_neg h0,if_neg h2,if_neg h5]
theorem num_le {s:ByteArray} {n:Nat} (h:bl s=num n) (hz:s.size≤2000000):n≤1000000:=by
  have:=congrArg List.length h
  rw [bl_len,num_length] at this
  omega
theorem get_tells (n:Int) (h0:0≤n) (h6:n<6) (s:ByteArray) : ∃ r,getOf n s=some r∧(r.1=true→Nice (mkI r)∧r.2.1=n∧bl s=body (mkI r)):=by
  obtain ⟨a,b,is,ep,hp⟩:=pair_tells s
  obtain ⟨va,oka,ea,ha⟩:=value_tells a
  unfold getOf
  by_cases n0:n=0
  · subst n0
    rw [if_pos rfl]
    unfold code_fields_2.f
    rw [ep]
    simp only [Option.bind_some]
    rw [ea]
    simp only [Option.bind_some]
    cases is with
    | false=>exact ⟨_,rfl,fun h=>by cases h⟩
    | true =>
      refine ⟨_,rfl,fun h=>?_⟩
      obtain ⟨na,rfl,hna,hza⟩:=ha h
      rcases hp rfl with ⟨h1,_⟩|⟨hz,hta,htb,e⟩
      · exact absurd (hna.symm.trans h1) (num_ne_nil _)
      · have:=congrArg List.length e
        rw [bl_len,List.length_cons,List.length_append,bl_len,bl_len] at this
        refine ⟨⟨by simp [mkI],by have:=num_le hna hza;simp [mkI];omega,.inl ⟨rfl,rfl,rfl,htb,?_⟩⟩,rfl,?_⟩
        · show b.size≤2000000
          omega
        · rw [e,hna];rfl
  by_cases n2:n=2
  · subst n2
    rw [if_neg (by omega),if_pos rfl]
    unfold code_fields_4.f
    rw [ep]
    simp only [Option.bind_some]
    obtain ⟨c,d,is2,ep2,hp2⟩:=pair_tells b
    obtain ⟨vc,okc,ec,hc⟩:=value_tells c
    obtain ⟨vd,okd,ed,hd⟩:=value_tells d
    rw [ep2]
    simp only [Option.bind_some]
    rw [ea,ec,ed]
    simp only [Option.bind_some]
    cases is with
    | false=>exact ⟨_,rfl,fun h=>by cases h⟩
    | true =>
      cases is2 with
      | false=>exact ⟨_,rfl,fun h=>by cases h⟩
      | true =>
        cases oka with
        | false=>exact ⟨_,rfl,fun h=>by cases h⟩
        | true =>
          cases okc with
          | false=>exact ⟨_,rfl,fun h=>by cases h⟩
          | true =>
            refine ⟨_,rfl,fun h=>?_⟩
            obtain ⟨na,rfl,hna,hza⟩:=ha rfl
            obtain ⟨nc,rfl,hnc,hzc⟩:=hc rfl
            obtain ⟨nd,rfl,hnd,hzd⟩:=hd h
            rcases hp rfl with ⟨h1,_⟩|⟨hz,hta,htb,e⟩
            · exact absurd (hna.symm.trans h1) (num_ne_nil _)
            rcases hp2 rfl with ⟨h1,_⟩|⟨hz2,htc,htd,e2⟩
            · exact absurd (hnc.symm.trans h1) (num_ne_nil _)
            have l1:=num_le hna hza
            have l2:=num_le hnc hzc
            have l3:=num_le hnd hzd
            refine ⟨⟨by simp [mkI],by simp [mkI];omega,.inr (.inl ⟨rfl,by simp [mkI],by simp [mkI];omega,by simp [mkI],by simp [mkI];omega,rfl⟩)⟩,rfl,?_⟩
            rw [e,hna,e2,hnc,hnd];rfl
  by_cases n5:n=5
  · subst n5
    rw [if_neg (by omega),if_neg (by omega),if_pos rfl]
    unfold code_fields_6.f
    rw [ep]
    simp only [Option.bind_some]
    obtain ⟨c,d,is2,ep2,hp2⟩:=pair_tells b
    obtain ⟨vd,okd,ed,hd⟩:=value_tells d
    rw [ep2]
    simp only [Option.bind_some]
    rw [ea,ed]
    simp only [Option.bind_some]
    rw [toL]
    cases is with
    | false=>split<;>exact ⟨_,rfl,fun h=>by cases h⟩
    | true =>
      cases is2 with
      | false=>split<;>exact ⟨_,rfl,fun h=>by cases h⟩
      | true =>
        cases oka with
        | false=>split<;>exact ⟨_,rfl,fun h=>by cases h⟩
        | true =>
          cases okd with
          | false=>split<;>exact ⟨_,rfl,fun h=>by cases h⟩
          | true =>
            obtain ⟨na,rfl,hna,hza⟩:=ha rfl
            obtain ⟨nd,rfl,hnd,hzd⟩:=hd rfl
            have l1:=num_le hna hza
            have l3:=num_le hnd hzd
            simp only [if_true]
            rcases hp rfl with ⟨h1,_⟩|⟨hz,hta,htb,e⟩
            · exact absurd (hna.symm.trans h1) (num_ne_nil _)
            rcases hp2 rfl with ⟨_,h1⟩|⟨hz2,htc,htd,e2⟩
            · exact absurd (hnd.symm.trans h1) (num_ne_nil _)
            by_cases hs:bl c = [49,48,48]
            · rw [if_pos hs,if_neg (by rw [hs];decide)]
              refine ⟨_,rfl,fun h=>?_⟩
              have hpos:(nd:Int) > 0:=of_decide_eq_true h
              refine ⟨⟨by simp [mkI],by simp [mkI];omega,.inr (.inr (.inl ⟨rfl,?_,?_,rfl,rfl⟩))⟩,rfl,?_⟩
              · show _≤wrap64 (-(nd:Int));rw [wrap_small (by omega) (by omega)];omega
              · show wrap64 (-(nd:Int))≤_;rw [wrap_small (by omega) (by omega)];omega
              · rw [e,hna,e2,hs,hnd]
                rw [body_neg (x:=mkI _) rfl (by show wrap64 (-(nd:Int))<0;rw [wrap_small (by omega) (by omega)];omega)]
                show _=49 :: (num (na:Int).toNat ++ 49 :: ([49,48,48] ++ num (-(wrap64 (-(nd:Int)))).toNat))
                rw [wrap_small (by omega) (by omega),show (-(-(nd:Int))).toNat=nd from by omega,Int.toNat_natCast]
            · rw [if_neg hs]
              by_cases hs0:bl c = [48]
              · rw [if_pos hs0]
                refine ⟨_,rfl,fun h=>?_⟩
                refine ⟨⟨by simp [mkI],by simp [mkI];omega,.inr (.inr (.inl ⟨rfl,by show (-1000000:Int)≤(nd:Int);omega,by show (nd:Int)≤1000000;omega,rfl,rfl⟩))⟩,rfl,?_⟩
                rw [e,hna,e2,hs0,hnd]
                rw [body_pos (x:=mkI _) rfl (by simp [mkI])]
                rfl
              · rw [if_neg hs0]
                exact ⟨_,rfl,fun h=>by cases h⟩
  · rw [if_neg n0,if_neg n2,if_neg n5]
    unfold code_regs_2.f
    rw [ep]
    simp only [Option.bind_some]
    obtain ⟨vb,okb,eb,hb⟩:=value_tells b
    rw [ea,eb]
    simp only [Option.bind_some]
    cases is with
    | false=>exact ⟨_,rfl,fun h=>by cases h⟩
    | true =>
      cases oka with
      | false=>exact ⟨_,rfl,fun h=>by cases h⟩
      | true =>
        refine ⟨_,rfl,fun h=>?_⟩
        obtain ⟨na,rfl,hna,hza⟩:=ha rfl
        obtain ⟨nb,rfl,hnb,hzb⟩:=hb h
        rcases hp rfl with ⟨h1,_⟩|⟨hz,hta,htb,e⟩
        · exact absurd (hna.symm.trans h1) (num_ne_nil _)
        have l1:=num_le hna hza
        have l2:=num_le hnb hzb
        refine ⟨⟨by simp [mkI],by simp [mkI];omega,.inr (.inr (.inr ⟨by show n=1 ∨ n=3 ∨ n=4;omega,by simp [mkI],by simp [mkI];omega,rfl,rfl⟩))⟩,rfl,?_⟩
        rw [e,hna,hnb]
        exact (body_regs (x:=mkI (true,n,(na:Int),(nb:Int),0,⟨#[]⟩)) n0 n2 n5).symm
end Go.Proofs.YtfckjfoalpkpjaaGreatDoor.Plain
end
section
namespace Go.Proofs.YtfckjfoalpkpjaaGreatDoor.Plain
open Go.Proofs.YtfckjfoalpkpjaaGreatDoor.C
open Go.RowKit Go.Proofs.YtfckjfoalpkpjaaGreatDoorW.PrintWords Go.Proofs.YtfckjfoalpkpjaaGreatDoorW.PrintLast Go.Proofs.YtfckjfoalpkpjaaGreatDoorW.PrintMore
theorem items_l : ∀ (xs:List (List UInt8)) (k:Nat) (s:ByteArray) (out:List ByteArray),(∀ x ∈ xs,IsT x)→bl s=lst xs→s.size≤2000000→xs.length<k→out.length+xs.length<8796093022000 →
    tree_Items.l k s out=some (out ++ xs.map bs)
  | [],k,s,out,_,h,_,hk,_=>by
    obtain ⟨k,rfl⟩ : ∃ m,k=m+1:=⟨k - 1,by simp at hk;omega⟩
    rw [tree_Items.l,toL,if_pos (show bl s = [48] from h)]
    simp
  | x :: xs,k,s,out,ht,h,hz,hk,hl=>by
    simp only [List.length_cons] at hk hl
    obtain ⟨k,rfl⟩ : ∃ m,k=m+1:=⟨k - 1,by omega⟩
    have hx:=ht x (by simp)
    have hn:=isT_len hx
    have hlen:=congrArg List.length h
    rw [bl_len,lst,List.length_cons,List.length_append] at hlen
    rw [tree_Items.l,toL,if_neg (by rw [h,lst];intro e;injection e with e1 _;exact absurd e1 (by decide)),parts_cons hx hz h,Option.bind_some,if_pos (by omega)]
    rw [items_l xs k (bs (lst xs)) (out ++ [bs x]) (fun y hy=>ht y (List.mem_cons_of_mem _ hy)) (bl_bs _) (by rw [bs_size];omega) (by omega) (by rw [List.length_append,List.length_singleton];omega)]
    simp
theorem items_yes {xs:List (List UInt8)} {k:Nat} {s:ByteArray} (ht : ∀ x ∈ xs,IsT x) (h:bl s=lst xs) (hz:s.size≤2000000) (hk:xs.length<k) :
    tree_Items.f k s=some (xs.map bs,0):=by
  have hv:ValidT s:=⟨hz,by rw [h];exact isT_lst _ ht⟩
  have hlen : ∀ l:List (List UInt8),l.length≤(lst l).length:=by
    intro l
    induction l with
    | nil=>simp
    | cons x l ih=>rw [lst,List.length_cons,List.length_cons,List.length_append];omega
  have:=hlen xs
  rw [← h,bl_len] at this
  unfold tree_Items.f
  rw [valid_yes hv,Option.bind_some,if_pos rfl,items_l xs k s [] ht h hz hk (by simp;omega)]
  rfl
theorem items_no {k:Nat} {s:ByteArray} (h : ¬ ValidT s):tree_Items.f k s=some ([],1):=by
  unfold tree_Items.f
  rw [valid_no h,Option.bind_some,if_neg (by decide)]
def Reg (n:Int):Prop:=0≤n∧n<32
def Right (x:Ins) (i n:Int):Prop :=
  x.f0=0∧Reg x.f1∧x.f2=0∧x.f3=0∧ValidT x.f4 ∨
  (x.f0=1 ∨ x.f0=3 ∨ x.f0=4)∧Reg x.f1∧Reg x.f2∧x.f3=0∧bl x.f4 = [] ∨
  x.f0=2∧Reg x.f1∧Reg x.f2∧Reg x.f3∧bl x.f4 = [] ∨
  x.f0=5∧Reg x.f1 ∧ -i≤x.f2∧x.f2≤n - i∧x.f3=0∧bl x.f4 = []
theorem nice_of_right {x:Ins} {i n:Int} (h:Right x i n) (hi:0≤i) (hn:n≤4000) (hin:i≤n):Nice x:=by
  unfold Right Reg at h
  unfold Nice
  rcases h with ⟨h0,⟨h1,h2⟩,h3,h4,h5,h6⟩|⟨h0,⟨h1,h2⟩,⟨h3,h4⟩,h5,h6⟩|⟨h0,⟨h1,h2⟩,⟨h3,h4⟩,⟨h5,h6⟩,h7⟩|⟨h0,⟨h1,h2⟩,h3,h4,h5,h6⟩
  · exact ⟨h1,by omega,.inl ⟨h0,h3,h4,h6,h5⟩⟩
  · exact ⟨h1,by omega,.inr (.inr (.inr ⟨h0,h3,by omega,h5,h6⟩))⟩
  · exact ⟨h1,by omega,.inr (.inl ⟨h0,h3,by omega,h5,by omega,h7⟩)⟩
  · exact ⟨h1,by omega,.inr (.inr (.inl ⟨h0,by omega,by omega,h5,h6⟩))⟩
def OKP (p:List Ins):Prop:=p.length≤4000∧(p.map fun x=>x.f4.size).sum≤2000000 ∧ ∀ j,j<p.length→Right (rd_T42 p (j:Int)) j p.length
theorem reg_l (l:List Int) : ∀ (d k:Nat) (i:Nat),l.length - i=d→i≤l.length→l.length≤1000→d<k → ∃ v,code_reg.l0 k l (l.length:Int) (i:Int)=some v∧(v=true ↔ ∀ a ∈ l.drop i,Reg a)
  | d,k,i,hd,hi,hb,hk=>by
    obtain ⟨k,rfl⟩ : ∃ m,k=m+1:=⟨k - 1,by omega⟩
    by_cases hlt:i<l.length
    · have hdrop:l.drop i=l[i] :: l.drop (i+1):=List.drop_eq_getElem_cons hlt
      have hrd:rd l (i:Int)=l[i]:=by simp [rd,hlt]
      rw [code_reg.l0,if_pos (by omega),if_pos (by omega),if_pos (by omega),hrd,hdrop]
      by_cases h1:l[i]<0
      · rw [if_pos h1]
        refine ⟨false,rfl,?_⟩
        constructor
        · intro h;cases h
        · intro h;have:=(h l[i] List.mem_cons_self).1;omega
      · rw [if_neg h1]
        by_cases h2:l[i] ≥ 32
        · rw [if_pos h2]
          refine ⟨false,rfl,?_⟩
          constructor
          · intro h;cases h
          · intro h;have:=(h l[i] List.mem_cons_self).2;omega
        · rw [if_neg h2,wrap_small (by omega) (by omega),show (i:Int)+1=((i+1:Nat):Int) from rfl]
          obtain ⟨v,e,hv⟩:=reg_l l (l.length - (i+1)) k (i+1) rfl (by omega) hb (by omega)
          refine ⟨v,e,hv.trans ?_⟩
          simp only [List.forall_mem_cons]
          constructor
          · intro h;exact ⟨⟨by omega,by omega⟩,h⟩
          · intro h;exact h.2
    · rw [code_reg.l0,if_neg (by omega)]
      refine ⟨true,rfl,?_⟩
      rw [List.drop_eq_nil_of_le (by omega)]
      simp
  termination_by d=>d
theorem reg_tells (l:List Int) (k:Nat) (hl:l.length≤1000) (hk:l.length<k) : ∃ v,code_reg.f k l=some v∧(v=true ↔ ∀ a ∈ l,Reg a):=by
  unfold code_reg.f
  simpa using reg_l l l.length k 0 rfl (by omega) hl hk
theorem right_tells (x:Ins) (i n:Int) (hi:0≤i) (hin:i≤n) (hn:n≤4000) (k:Nat) (hk:8≤k) :
    ∃ v,code_right.f k x.f0 x.f1 x.f2 x.f3 x.f4 i n=some v∧(v=true↔Right x i n):=by
  obtain ⟨k,rfl⟩ : ∃ m,k=m+2:=⟨k - 2,by omega⟩
  have hw1:wrap64 (-i) = -i:=wrap_small (by omega) (by omega)
  have hw2:wrap64 (n - i)=n - i:=wrap_small (by omega) (by omega)
  unfold code_right.f
  rw [toL]
  by_cases h0:x.f0=0
  · rw [if_pos h0,if_neg (by omega)]
    rw [code_right.j0]
    by_cases h3:x.f3=0
    · rw [if_neg (by simp [h3]),if_pos h0]
      obtain ⟨v,e,hv⟩:=reg_tells [x.f1] (k+1) (by simp) (by simp;omega)
      rw [e,Option.bind_some]
      cases v with
      | false =>
        refine ⟨false,rfl,?_⟩
        have : ¬ Reg x.f1:=by simpa using hv
        constructor
        · intro h;cases h
        · intro h;unfold Right at h;rcases h with h|h|h|h
          · exact absurd h.2.1 this
          · omega
          · omega
          · omega
      | true =>
        have hr:Reg x.f1:=by simpa using hv
        rw [if_pos rfl]
        by_cases h2:x.f2=0
        · rw [if_pos h2]
          obtain ⟨v,e,hv⟩:=valid_tells x.f4
          rw [e]
          refine ⟨v,rfl,hv.trans ?_⟩
          constructor
          · intro h;exact .inl ⟨h0,hr,h2,h3,h⟩
          · intro h;unfold Right at h;rcases h with h|h|h|h
            · exact h.2.2.2.2
            · omega
            · omega
            · omega
        · rw [if_neg h2]
          refine ⟨false,rfl,?_⟩
          constructor
          · intro h;cases h
          · intro h;unfold Right at h;rcases h with h|h|h|h
            · exact absurd h.2.2.1 h2
            · omega
            · omega
            · omega
    · rw [if_pos (by simp [h3])]
      refine ⟨false,rfl,?_⟩
      constructor
      · intro h;cases h
      · intro h;unfold Right at h;rcases h with h|h|h|h
        · exact absurd h.2.2.2.1 h3
        · omega
        · omega
        · omega
  · rw [if_neg h0]
    by_cases ht:bl x.f4 = []
    · rw [if_pos ht]
      by_cases h2:x.f0=2
      · rw [if_pos h2,code_right.j0,if_neg (by decide),if_neg h0,if_neg (by omega),if_neg (by omega),code_right.j1,if_neg (by simp [h2]),if_pos h2]
        obtain ⟨v,e,hv⟩:=reg_tells [x.f1,x.f2,x.f3] k (by simp) (by simp;omega)
        rw [e]
        refine ⟨v,rfl,hv.trans ?_⟩
        constructor
        · intro h;exact .inr (.inr (.inl ⟨h2,h _ (by simp),h _ (by simp),h _ (by simp),ht⟩))
        · intro h;unfold Right at h;rcases h with h|h|h|h
          · omega
          · omega
          · simp only [List.forall_mem_cons];exact ⟨h.2.1,h.2.2.1,h.2.2.2.1,by simp⟩
          · omega
      · rw [if_neg h2,code_right.j0]
        by_cases h3:x.f3=0
        · rw [if_neg (by simp [h3]),if_neg h0]
          have hj : ∀ b,(b=true↔(x.f0=1 ∨ x.f0=3 ∨ x.f0=4)) → ∃ v,code_right.j1 (k+1) i n x.f0 b x.f0 x.f1 x.f2 x.f3 x.f4=some v∧(v=true↔Right x i n):=by
            intro b hb
            rw [code_right.j1]
            cases b with
            | true =>
              have h134:=hb.1 rfl
              rw [if_pos rfl]
              obtain ⟨v,e,hv⟩:=reg_tells [x.f1,x.f2] k (by simp) (by simp;omega)
              rw [e]
              refine ⟨v,rfl,hv.trans ?_⟩
              constructor
              · intro h;exact .inr (.inl ⟨h134,h _ (by simp),h _ (by simp),h3,ht⟩)
              · intro h;unfold Right at h;rcases h with h|h|h|h
                · omega
                · simp only [List.forall_mem_cons];exact ⟨h.2.1,h.2.2.1,by simp⟩
                · omega
                · omega
            | false =>
              have h134 : ¬ (x.f0=1 ∨ x.f0=3 ∨ x.f0=4):=fun h=>by have:=hb.2 h;cases this
              rw [if_neg (by decide),if_neg h2]
              by_cases h5:x.f0=5
              · rw [if_pos h5]
                obtain ⟨v,e,hv⟩:=reg_tells [x.f1] k (by simp) (by simp;omega)
                rw [e,Option.bind_some]
                cases v with
                | false =>
                  have : ¬ Reg x.f1:=by simpa using hv
                  refine ⟨false,rfl,?_⟩
                  constructor
                  · intro h;cases h
                  · intro h;unfold Right at h;rcases h with h|h|h|h
                    · omega
                    · omega
                    · omega
                    · exact absurd h.2.1 this
                | true =>
                  have hr:Reg x.f1:=by simpa using hv
                  rw [if_pos rfl,hw1,hw2]
                  by_cases hge:x.f2 ≥ -i
                  · rw [if_pos hge]
                    refine ⟨_,rfl,?_⟩
                    rw [decide_eq_true_iff]
                    constructor
                    · intro h;exact .inr (.inr (.inr ⟨h5,hr,hge,h,h3,ht⟩))
                    · intro h;unfold Right at h;rcases h with h|h|h|h
                      · omega
                      · omega
                      · omega
                      · exact h.2.2.2.1
                  · rw [if_neg hge]
                    refine ⟨false,rfl,?_⟩
                    constructor
                    · intro h;cases h
                    · intro h;unfold Right at h;rcases h with h|h|h|h
                      · omega
                      · omega
                      · omega
                      · exact absurd h.2.2.1 hge
              · rw [if_neg h5]
                refine ⟨false,rfl,?_⟩
                constructor
                · intro h;cases h
                · intro h;unfold Right at h;rcases h with h|h|h|h
                  · omega
                  · exact absurd h.1 h134
                  · omega
                  · omega
          by_cases h1:x.f0=1
          · rw [if_pos h1]
            exact hj _ (by simp [h1])
          · rw [if_neg h1]
            by_cases h33:x.f0=3
            · rw [if_pos h33]
              exact hj _ (by simp [h33])
            · rw [if_neg h33]
              refine hj _ ?_
              rw [beq_iff_eq]
              omega
        · rw [if_pos (by simp [h3])]
          refine ⟨false,rfl,?_⟩
          constructor
          · intro h;cases h
          · intro h;unfold Right at h;rcases h with h|h|h|h
            · omega
            · exact absurd h.2.2.2.1 h3
            · omega
            · exact absurd h.2.2.2.2.1 h3
    · rw [if_neg ht]
      refine ⟨false,?_,?_⟩
      · rw [code_right.j0,if_pos rfl]
      · constructor
        · intro h;cases h
        · intro h;unfold Right at h;rcases h with h|h|h|h
          · exact absurd h.1 h0
          · exact absurd h.2.2.2.2 ht
          · exact absurd h.2.2.2.2 ht
          · exact absurd h.2.2.2.2.2 ht
end Go.Proofs.YtfckjfoalpkpjaaGreatDoor.Plain
end
section
namespace Go.Proofs.YtfckjfoalpkpjaaGreatDoor.Plain
open Go.Proofs.YtfckjfoalpkpjaaGreatDoor.C
open Go.RowKit Go.Proofs.YtfckjfoalpkpjaaGreatDoorW.PrintWords Go.Proofs.YtfckjfoalpkpjaaGreatDoorW.PrintLast Go.Proofs.YtfckjfoalpkpjaaGreatDoorW.PrintMore
theorem rd_at (p:List Ins) (i:Nat) (h:i<p.length):rd_T42 p (i:Int)=p[i]:=by
  unfold rd_T42
  simp [h]
abbrev sizes (p:List Ins):Nat:=(p.map fun x=>x.f4.size).sum
theorem mn_tells (a:Nat):mn (a:Int) 2000001=((min a 2000001:Nat):Int):=by unfold mn;split<;>omega
theorem valid_l (p:List Ins) (hp:p.length≤4000) : ∀ (d k i s:Nat),p.length - i=d→i≤p.length→s≤2000000→d+8<k →
    ∃ v,code_Valid.l0 k p (s:Int) p (p.length:Int) (i:Int)=some v∧(v=true↔s+sizes (p.drop i)≤2000000 ∧ ∀ j,i≤j→j<p.length→Right (rd_T42 p (j:Int)) j p.length)
  | d,k,i,s,hd,hi,hs,hk=>by
    obtain ⟨k,rfl⟩ : ∃ m,k=m+1:=⟨k - 1,by omega⟩
    by_cases hlt:i<p.length
    · have hdrop:p.drop i=p[i] :: p.drop (i+1):=List.drop_eq_getElem_cons hlt
      rw [code_Valid.l0,if_pos (by omega),if_pos (by omega),if_pos (by omega),rd_at p i hlt,mn_tells]
      rw [wrap_small (by omega) (by omega),show (s:Int)+((min p[i].f4.size 2000001:Nat):Int)=((s+min p[i].f4.size 2000001:Nat):Int) from by omega]
      have hsum:sizes (p.drop i)=p[i].f4.size+sizes (p.drop (i+1)):=by unfold sizes;rw [hdrop,List.map_cons,List.sum_cons]
      rw [hsum]
      by_cases hbig:((s+min p[i].f4.size 2000001:Nat):Int) > 2000000
      · rw [if_pos hbig]
        refine ⟨false,rfl,?_⟩
        constructor
        · intro h;cases h
        · intro h;omega
      · rw [if_neg hbig]
        obtain ⟨v,e,hv⟩:=right_tells p[i] (i:Int) (p.length:Int) (by omega) (by omega) (by omega) k (by omega)
        rw [e,Option.bind_some]
        cases v with
        | false =>
          refine ⟨false,rfl,?_⟩
          constructor
          · intro h;cases h
          · intro ⟨_,h⟩
            have:=h i (Nat.le_refl _) hlt
            rw [rd_at p i hlt] at this
            exact hv.2 this
        | true =>
          rw [if_pos rfl,wrap_small (by omega) (by omega),show (i:Int)+1=((i+1:Nat):Int) from rfl]
          obtain ⟨v,e,hv'⟩:=valid_l p hp (p.length - (i+1)) k (i+1) (s+min p[i].f4.size 2000001) rfl (by omega) (by omega) (by omega)
          refine ⟨v,e,hv'.trans ?_⟩
          constructor
          · intro ⟨h1,h2⟩
            refine ⟨by omega,fun j h3 h4=>?_⟩
            by_cases hji:j=i
            · subst hji;rw [rd_at p j hlt];exact hv.1 rfl
            · exact h2 j (by omega) h4
          · intro ⟨h1,h2⟩
            exact ⟨by omega,fun j h3 h4=>h2 j (by omega) h4⟩
    · rw [code_Valid.l0,if_neg (by omega)]
      refine ⟨true,rfl,?_⟩
      rw [List.drop_eq_nil_of_le (by omega)]
      constructor
      · intro _;exact ⟨by simp [sizes];exact hs,fun j h1 h2=>by omega⟩
      · intro _;rfl
  termination_by d=>d
theorem validp_tells (p:List Ins) (k:Nat) (hk:4010≤k) : ∃ v,code_Valid.f k p=some v∧(v=true↔OKP p):=by
  unfold code_Valid.f
  by_cases h:(p.length:Int) > 4000
  · rw [if_pos h]
    refine ⟨false,rfl,?_⟩
    constructor
    · intro h;cases h
    · intro h';have:=h'.1;omega
  · rw [if_neg h]
    obtain ⟨v,e,hv⟩:=valid_l p (by omega) p.length k 0 0 rfl (by omega) (by omega) (by omega)
    refine ⟨v,e,hv.trans ?_⟩
    unfold OKP
    constructor
    · intro ⟨h1,h2⟩;exact ⟨by omega,by simpa using h1,fun j hj=>h2 j (by omega) hj⟩
    · intro ⟨h1,h2,h3⟩;exact ⟨by simpa using h2,fun j _ hj=>h3 j hj⟩
theorem validp_yes {p:List Ins} {k:Nat} (hk:4010≤k) (h:OKP p):code_Valid.f k p=some true:=by
  obtain ⟨v,e,hv⟩:=validp_tells p k hk
  rw [e,hv.2 h]
theorem validp_no {p:List Ins} {k:Nat} (hk:4010≤k) (h : ¬ OKP p):code_Valid.f k p=some false:=by
  obtain ⟨v,e,hv⟩:=validp_tells p k hk
  cases v with
  | false=>exact e
  | true=>exact absurd (hv.1 rfl) h
theorem okp_nice {p:List Ins} (h:OKP p) : ∀ x ∈ p,Nice x:=by
  intro x hx
  obtain ⟨i,hi,rfl⟩:=List.getElem_of_mem hx
  have:=h.2.2 i hi
  rw [rd_at p i hi] at this
  exact nice_of_right this (by omega) (by have:=h.1;omega) (by omega)
theorem item_length {x:Ins} {i n:Int} (h:Right x i n) (hi:0≤i) (hn:n≤4000) (hin:i≤n):(item x).length≤20000+x.f4.size:=by
  unfold Right Reg at h
  unfold item
  rw [List.length_cons,List.length_append,num_length]
  rcases h with ⟨h0,⟨h1,h2⟩,h3,h4,h5,h6⟩|⟨h0,⟨h1,h2⟩,⟨h3,h4⟩,h5,h6⟩|⟨h0,⟨h1,h2⟩,⟨h3,h4⟩,⟨h5,h6⟩,h7⟩|⟨h0,⟨h1,h2⟩,h3,h4,h5,h6⟩
  · unfold body
    rw [if_pos h0,List.length_cons,List.length_append,num_length,bl_len]
    omega
  · rw [body_regs (by omega) (by omega) (by omega),List.length_cons,List.length_append,num_length,num_length]
    omega
  · unfold body
    rw [if_neg (by omega),if_pos h0]
    simp only [List.length_cons,List.length_append,num_length]
    omega
  · by_cases hneg:x.f2<0
    · rw [body_neg h0 hneg]
      simp only [List.length_cons,List.length_append,num_length,List.length_nil]
      omega
    · rw [body_pos h0 hneg]
      simp only [List.length_cons,List.length_append,num_length,List.length_nil]
      omega
theorem item_length_okp {p:List Ins} (h:OKP p) : ∀ x ∈ p,(item x).length≤20000+x.f4.size:=by
  intro x hx
  obtain ⟨i,hi,rfl⟩:=List.getElem_of_mem hx
  have:=h.2.2 i hi
  rw [rd_at p i hi] at this
  exact item_length this (by omega) (by have:=h.1;omega) (by omega)
def codeL (p:List Ins):List UInt8:=lst (p.map item)
theorem codeL_cons (x:Ins) (p:List Ins):codeL (x :: p)=49 :: (item x ++ codeL p):=rfl
theorem codeL_length : ∀ (p:List Ins),(∀ x ∈ p,(item x).length≤20000+x.f4.size)→(codeL p).length≤20001 * p.length+sizes p+1
  | [],_=>by simp [codeL,lst]
  | x :: p,h=>by
    have h1:=h x (by simp)
    have h2:=codeL_length p (fun y hy=>h y (List.mem_cons_of_mem _ hy))
    rw [codeL_cons,List.length_cons,List.length_append,List.length_cons]
    simp only [sizes,List.map_cons,List.sum_cons] at *
    omega
theorem code_l (p:List Ins) (hn : ∀ x ∈ p,Nice x) : ∀ (d k i:Nat) (bs0:List UInt8),p.length - i=d→i≤p.length→d<k→bs0.length+(codeL (p.drop i)).length≤140737488355000 →
    code_Code.l k p (i:Int) bs0=some (bs0 ++ codeL (p.drop i))
  | d,k,i,bs0,hd,hi,hk,hz=>by
    obtain ⟨k,rfl⟩ : ∃ m,k=m+1:=⟨k - 1,by omega⟩
    by_cases hlt:i<p.length
    · have hdrop:p.drop i=p[i] :: p.drop (i+1):=List.drop_eq_getElem_cons hlt
      have hx:=hn p[i] (List.getElem_mem hlt)
      have hop:0≤p[i].f0∧p[i].f0≤1000000:=by
        obtain ⟨_,_,h⟩:=hx
        omega
      rw [hdrop,codeL_cons,List.length_cons,List.length_append] at hz
      have hitem:(item p[i]).length=1+(num p[i].f0.toNat).length+(body p[i]).length:=by unfold item;simp;omega
      rw [code_Code.l,if_pos (by omega),rd_at p i hlt,(num_small hop.1 hop.2).1,Option.bind_some,put_tells hx,Option.bind_some]
      rw [bs_size,bs_size,if_pos (by omega),show (i:Int)+1=((i+1:Nat):Int) from rfl]
      rw [code_l p hn (p.length - (i+1)) k (i+1) _ rfl (by omega) (by omega) (by
        rw [List.length_append,List.length_append,List.length_append]
        show bs0.length+(2+(bl (bs _)).length)+(bl (bs _)).length+_≤_
        rw [bl_bs,bl_bs]
        omega)]
      rw [hdrop,codeL_cons]
      congr 1
      show bs0 ++ ([49,49] ++ bl (bs _)) ++ bl (bs _) ++ _=_
      rw [bl_bs,bl_bs]
      unfold item
      simp
    · have:p.drop i = []:=List.drop_eq_nil_of_le (by omega)
      rw [this] at hz ⊢
      rw [code_Code.l,if_neg (by omega),if_pos (by simpa [codeL,lst] using (by simp [codeL,lst] at hz;omega))]
      rfl
  termination_by d=>d
theorem codeL_small {p:List Ins} (h:OKP p):(codeL p).length≤100000000:=by
  have h1:=codeL_length p (item_length_okp h)
  have h2:=h.1
  have h3:sizes p≤2000000:=h.2.1
  have:20001 * p.length≤20001 * 4000:=Nat.mul_le_mul_left _ h2
  omega
theorem code_yes {p:List Ins} {k:Nat} (hk:4010≤k) (h:OKP p):code_Code.f k p=if 2000000<(codeL p).length then some (bs [],3) else some (bs (codeL p),0):=by
  have hs:=codeL_small h
  unfold code_Code.f
  rw [validp_yes hk h,Option.bind_some,if_pos rfl]
  have:=code_l p (okp_nice h) p.length k 0 [] rfl (by omega) (by have:=h.1;omega) (by simp;omega)
  rw [show ((0:Nat):Int)=0 from rfl] at this
  rw [this,Option.bind_some]
  simp only [List.drop_zero,List.nil_append]
  rfl
theorem isT_codeL {p:List Ins} (h : ∀ x ∈ p,Nice x):IsT (codeL p):=by
  refine isT_lst _ fun s hs=>?_
  obtain ⟨x,hx,rfl⟩:=List.mem_map.1 hs
  exact isT_item (h x hx)
theorem drop_rd (l:List ByteArray) (i:Nat) (h:i<l.length):l.drop i=rdOf ByteArray.empty l (i:Int) :: l.drop (i+1):=by
  rw [List.drop_eq_getElem_cons h]
  simp [rdOf,h]
theorem item_op {x:Ins} (h:Nice x):0≤x.f0∧x.f0<6:=by
  obtain ⟨_,_,h⟩:=h
  omega
theorem item_inj {x y:Ins} (hx:Nice x) (hy:Nice y) (hl:(item x).length≤2000000) (h:item x=item y):x=y:=by
  unfold item at h
  injection h with _ h
  obtain ⟨e1,e2⟩:=isT_split (isT_num _) (isT_num _) h
  have e0:x.f0=y.f0:=by have:=num_inj e1;have:=item_op hx;have:=item_op hy;omega
  have hbl:(body x).length≤2000000:=by unfold item at hl;rw [List.length_cons,List.length_append] at hl;omega
  have g1:=get_yes hx hbl
  have g2:=get_yes hy (by rw [← e2];exact hbl)
  rw [e2,e0,g2] at g1
  injection g1 with g1
  injection g1 with _ g1
  injection g1 with a0 g1
  injection g1 with a1 g1
  injection g1 with a2 g1
  injection g1 with a3 a4
  exact ins_eq e0 a1.symm a2.symm a3.symm (by rw [a4])
theorem decode_l (l:List ByteArray) (hl:l.length≤4000) (hz : ∀ s ∈ l,s.size≤2000000) : ∀ (d k i:Nat) (p:List Ins),l.length - i=d→i≤l.length→d<k→p.length+d≤4000 →
    ∃ q,code_Decode.l k l (i:Int) p=some q∧(∀ r,q=some r ↔ ∃ ys:List Ins,r=p ++ ys∧(∀ y ∈ ys,Nice y)∧(l.drop i).map bl=ys.map item)
  | d,k,i,p,hd,hi,hk,hp=>by
    obtain ⟨k,rfl⟩ : ∃ m,k=m+1:=⟨k - 1,by omega⟩
    by_cases hlt:i<l.length
    · have hdrop:=drop_rd l i hlt
      have hmem:rdOf ByteArray.empty l (i:Int) ∈ l:=List.mem_of_mem_drop (i:=i) (by rw [hdrop];exact List.mem_cons_self)
      have hzs:=hz _ hmem
      rw [code_Decode.l,if_pos (by omega),hdrop]
      generalize rdOf ByteArray.empty l (i:Int)=s at *
      obtain ⟨a,b,is,ep,hpt⟩:=pair_tells s
      obtain ⟨v,ok,ev,hv⟩:=value_tells a
      rw [ep,Option.bind_some,ev,Option.bind_some]
      have hno:(∀ y:Ins,Nice y→bl s=item y→False) → ∀ r,(none:Option (List Ins))=some r ↔ ∃ ys:List Ins,r=p ++ ys∧(∀ y ∈ ys,Nice y)∧(s :: l.drop (i+1)).map bl=ys.map item:=by
        intro h r
        constructor
        · intro e;cases e
        · intro ⟨ys,_,hn,e⟩
          cases ys with
          | nil=>simp at e
          | cons y ys =>
            simp only [List.map_cons,List.cons.injEq] at e
            exact absurd e.1 (fun e=>h y (hn y (by simp)) e)
      have hparts : ∀ y:Ins,Nice y→bl s=item y→is=true∧bl a=num y.f0.toNat∧bl b=body y:=by
        intro y hy e
        have:=pair_cons hzs (isT_num _) (isT_body hy) e
        rw [ep] at this
        injection this with this
        injection this with e1 this
        injection this with e2 e3
        exact ⟨e3,by rw [e1,bl_bs],by rw [e2,bl_bs]⟩
      have hsz : ∀ y:Ins,Nice y→bl s=item y→a.size≤2000000∧b.size≤2000000:=by
        intro y hy e
        obtain ⟨_,e1,e2⟩:=hparts y hy e
        have:=congrArg List.length e
        unfold item at this
        rw [bl_len,List.length_cons,List.length_append,← e1,← e2,bl_len,bl_len] at this
        omega
      cases is with
      | false =>
        exact ⟨none,by simp,hno fun y hy e=>by have:=(hparts y hy e).1;cases this⟩
      | true =>
        simp only [if_true]
        cases ok with
        | false =>
          refine ⟨none,by simp,hno fun y hy e=>?_⟩
          obtain ⟨_,e1,_⟩:=hparts y hy e
          have:=value_num (hsz y hy e).1 e1
          rw [ev] at this
          injection this with this
          injection this with _ this
          cases this
        | true =>
          simp only [if_true]
          obtain ⟨n,rfl,hn,hza⟩:=hv rfl
          by_cases h6:(n:Int)<6
          · rw [if_pos h6]
            obtain ⟨r,er,hr⟩:=get_tells (n:Int) (by omega) h6 b
            rw [er,Option.bind_some]
            have hopn : ∀ y:Ins,Nice y→bl s=item y→y.f0=(n:Int):=by
              intro y hy e
              have:=num_inj (hn.symm.trans (hparts y hy e).2.1)
              have:=(item_op hy).1
              omega
            by_cases hr1:r.1=true
            · rw [if_pos hr1,if_pos (by omega),show (i:Int)+1=((i+1:Nat):Int) from rfl]
              obtain ⟨hnice,hrn,hb⟩:=hr hr1
              obtain ⟨q,eq,hq⟩:=decode_l l hl hz (l.length - (i+1)) k (i+1) (p ++ [mkI r]) rfl (by omega) (by omega) (by rw [List.length_append,List.length_singleton];omega)
              refine ⟨q,eq,fun r'=>(hq r').trans ?_⟩
              have hitem:bl s=item (mkI r):=by
                rcases hpt rfl with ⟨e1,_⟩|⟨_,_,_,e⟩
                · exact absurd (hn.symm.trans e1) (num_ne_nil _)
                · rw [e,hn,hb]
                  unfold item
                  rw [show (mkI r).f0=(n:Int) from hrn,Int.toNat_natCast]
              constructor
              · intro ⟨ys,e1,e2,e3⟩
                refine ⟨mkI r :: ys,by rw [e1];simp,fun y hy=>?_,by rw [List.map_cons,List.map_cons,hitem,e3]⟩
                rcases List.mem_cons.1 hy with rfl|hy
                · exact hnice
                · exact e2 y hy
              · intro ⟨ys,e1,e2,e3⟩
                cases ys with
                | nil=>simp at e3
                | cons y ys =>
                  simp only [List.map_cons,List.cons.injEq] at e3
                  have:y=mkI r:=item_inj (e2 y (by simp)) hnice (by rw [← e3.1,bl_len];exact hzs) (e3.1.symm.trans hitem)
                  subst this;exact ⟨ys,by rw [e1];simp,fun z hz=>e2 z (List.mem_cons_of_mem _ hz),e3.2⟩
            · rw [if_neg hr1]
              refine ⟨none,rfl,hno fun y hy e=>hr1 ?_⟩
              obtain ⟨_,_,e2⟩:=hparts y hy e
              have:=get_yes hy (by rw [← e2,bl_len];exact (hsz y hy e).2)
              rw [← e2,bs_bl,hopn y hy e,er] at this
              injection this with this
              rw [this]
          · rw [if_neg h6]
            refine ⟨none,rfl,hno fun y hy e=>h6 ?_⟩
            have:=num_inj (hn.symm.trans (hparts y hy e).2.1)
            have:=item_op hy
            omega
    · rw [code_Decode.l,if_neg (by omega)]
      refine ⟨some p,rfl,fun r=>?_⟩
      rw [List.drop_eq_nil_of_le (by omega)]
      constructor
      · intro e
        injection e with e
        exact ⟨[],by simp [e],by simp,rfl⟩
      · intro ⟨ys,e1,_,e3⟩
        have:ys = []:=by simpa using e3.symm
        rw [e1,this];simp
  termination_by d=>d
theorem decode_tells (s:ByteArray) (k:Nat) (hk:2000010≤k) :
    (∃ p,code_Decode.f k s=some (p,0)∧OKP p∧bl s=codeL p∧s.size≤2000000) ∨
    (code_Decode.f k s=some ([],1) ∧ ¬ ValidT s) ∨
    (code_Decode.f k s=some ([],4)∧ValidT s ∧ ∀ p,OKP p→bl s ≠ codeL p):=by
  by_cases hv:ValidT s
  case neg =>
    refine .inr (.inl ⟨?_,hv⟩)
    unfold code_Decode.f
    rw [items_no hv,Option.bind_some,if_neg (by decide)]
  obtain ⟨xs,ht,hs⟩:=isT_lst_of hv.2
  have hlen : ∀ l:List (List UInt8),l.length≤(lst l).length ∧ ∀ x ∈ l,x.length≤(lst l).length:=by
    intro l
    induction l with
    | nil=>simp
    | cons x l ih =>
      rw [lst,List.length_cons,List.length_cons,List.length_append]
      refine ⟨by omega,fun y hy=>?_⟩
      rcases List.mem_cons.1 hy with rfl|hy
      · omega
      · have:=ih.2 y hy;omega
  have hx:=hlen xs
  rw [← hs,bl_len] at hx
  have hz:=hv.1
  have hmap:(xs.map bs).map bl=xs:=by
    rw [List.map_map]
    conv=>rhs;rw [← List.map_id xs]
    exact List.map_congr_left fun a _=>bl_bs a
  have hcode : ∀ p:List Ins,OKP p→(bl s=codeL p↔xs=p.map item):=by
    intro p hp
    rw [hs]
    constructor
    · intro h
      refine lst_inj xs (p.map item) ht (fun y hy=>?_) h
      obtain ⟨x,hx,rfl⟩:=List.mem_map.1 hy
      exact isT_item (okp_nice hp x hx)
    · intro h;rw [h];rfl
  unfold code_Decode.f
  rw [items_yes ht hs hz (by omega),Option.bind_some,if_pos rfl,List.length_map]
  by_cases h4:(4000:Int)<(xs.length:Int)
  · rw [if_pos h4]
    refine .inr (.inr ⟨rfl,hv,fun p hp e=>?_⟩)
    have:=congrArg List.length ((hcode p hp).1 e)
    rw [List.length_map] at this
    have:=hp.1
    omega
  · rw [if_neg h4]
    obtain ⟨q,eq,hq⟩:=decode_l (xs.map bs) (by rw [List.length_map];omega) (fun y hy=>by
      obtain ⟨x,hx',rfl⟩:=List.mem_map.1 hy
      have:=hx.2 x hx'
      rw [bs_size];omega) xs.length k 0 [] (by simp) (by omega) (by omega) (by simp;omega)
    rw [show ((0:Nat):Int)=0 from rfl] at eq
    rw [eq,Option.bind_some]
    simp only [List.drop_zero,List.nil_append] at hq
    rw [hmap] at hq
    cases q with
    | none =>
      refine .inr (.inr ⟨rfl,hv,fun p hp e=>?_⟩)
      have:=(hq p).2 ⟨p,rfl,okp_nice hp,(hcode p hp).1 e⟩
      cases this
    | some p =>
      obtain ⟨ys,rfl,hn,e⟩:=(hq p).1 rfl
      by_cases hok:OKP p
      · refine .inl ⟨p,?_,hok,(hcode p hok).2 e,hz⟩
        show (code_Valid.f k p).bind _=_
        rw [validp_yes (by omega) hok,Option.bind_some,if_pos rfl]
      · refine .inr (.inr ⟨?_,hv,fun p' hp' e'=>hok ?_⟩)
        · show (code_Valid.f k p).bind _=_
          rw [validp_no (by omega) hok,Option.bind_some,if_neg (by decide)]
        · have:=(hq p').2 ⟨p',rfl,okp_nice hp',(hcode p' hp').1 e'⟩
          injection this with this
          rw [this];exact hp'
end Go.Proofs.YtfckjfoalpkpjaaGreatDoor.Plain
end
section
namespace Go.Proofs.YtfckjfoalpkpjaaGreatDoor.Plain
open Go
def joinS (sep:List UInt8):List (List UInt8)→List UInt8
  | [] => []
  | [x]=>x
  | x :: y :: l=>x ++ sep ++ joinS sep (y :: l)
theorem joinS_cons (sep x:List UInt8) (l:List (List UInt8)) (h:l ≠ []):joinS sep (x :: l)=x ++ sep ++ joinS sep l:=by
  cases l with
  | nil=>exact absurd rfl h
  | cons y l=>rfl
theorem occAt_split {s sub:List UInt8} {i:Nat} (h:Lib.occAt s sub i=true) (_:i≤s.length):s=s.take i ++ sub ++ s.drop (i+sub.length):=by
  unfold Lib.occAt at h
  obtain ⟨t,ht⟩:=List.isPrefixOf_iff_prefix.1 h
  have h1:=List.take_append_drop i s
  rw [← ht] at h1
  have h2:s.drop (i+sub.length)=t:=by
    rw [← List.drop_drop,← ht];simp
  rw [h2,List.append_assoc,h1]
theorem splitK_ne (sep:List UInt8) (k:Nat) (s:List UInt8):Lib.splitK sep 0 k s ≠ []:=by
  cases k with
  | zero=>simp [Lib.splitK]
  | succ k=>unfold Lib.splitK;split<;>simp
theorem joinS_splitK (sep:List UInt8) : ∀ (k:Nat) (s:List UInt8),joinS sep (Lib.splitK sep 0 k s)=s
  | 0,s=>rfl
  | k+1,s=>by
    unfold Lib.splitK
    split
    · rfl
    · rename_i hne
      rw [joinS_cons _ _ _ (splitK_ne _ _ _),joinS_splitK sep k,Nat.add_zero]
      rcases Lib.index_spec s sep with ⟨h,_⟩|⟨i,h,hi,ho,_⟩
      · rw [h] at hne;simp at hne
      · rw [h,Int.toNat_natCast]
        exact (occAt_split ho hi).symm
theorem occAt_first {s t:List UInt8} {c:UInt8} {i:Nat} (h:Lib.occAt s (c :: t) i=true):s[i]? = some c:=Lib.occAt_head rfl h
theorem index_part {c:UInt8} {t x r:List UInt8} (hx:c ∉ x):Lib.index (x ++ (c :: t) ++ r) (c :: t)=x.length:=by
  refine Lib.index_first (by simp) ?_ ?_
  · unfold Lib.occAt
    rw [List.append_assoc,List.drop_left]
    exact List.isPrefixOf_iff_prefix.2 (List.prefix_append _ _)
  · intro j hj
    cases hh:Lib.occAt (x ++ (c :: t) ++ r) (c :: t) j with
    | false=>rfl
    | true =>
      have:=occAt_first hh
      rw [List.append_assoc,List.getElem?_append_left hj] at this
      exact absurd (List.mem_of_getElem? this) hx
theorem index_last {c:UInt8} {t x:List UInt8} (hx:c ∉ x):Lib.index x (c :: t) = -1:=by
  refine Lib.index_none fun j _=>?_
  cases hh:Lib.occAt x (c :: t) j with
  | false=>rfl
  | true=>exact absurd (List.mem_of_getElem? (occAt_first hh)) hx
theorem split_joinS (c:UInt8) (t:List UInt8) : ∀ (l:List (List UInt8)),l ≠ []→(∀ x ∈ l,c ∉ x)→Lib.splitK (c :: t) 0 (Lib.count (joinS (c :: t) l) (c :: t)) (joinS (c :: t) l)=l
  | [],h,_=>absurd rfl h
  | [x],_,h=>by
    have hi:=index_last (t:=t) (h x (by simp))
    simp only [joinS]
    rw [Lib.count_miss hi]
    rfl
  | x :: y :: l,_,h=>by
    have hi:Lib.index (joinS (c :: t) (x :: y :: l)) (c :: t)=(x.length:Int):=index_part (h x (by simp))
    have hd:(joinS (c :: t) (x :: y :: l)).drop (x.length+(c :: t).length)=joinS (c :: t) (y :: l):=by
      rw [joinS,show x.length+(c :: t).length=(x ++ (c :: t)).length by simp,List.drop_left]
    rw [Lib.count_hit (by simp) hi,hd,Nat.add_comm 1,Lib.splitK,hi]
    rw [if_neg (by simp),Int.toNat_natCast,Nat.add_zero,hd,split_joinS c t (y :: l) (by simp) (fun z hz=>h z (List.mem_cons_of_mem _ hz))]
    congr 1
    simp [joinS]
theorem parseUint10_append : ∀ (l r:List UInt8) (acc:Nat),Lib.parseUint10 acc (l ++ r)=match Lib.parseUint10 acc l with | .ok a=>Lib.parseUint10 a r|e=>e
  | [],r,acc=>rfl
  | c :: l,r,acc=>by
    simp only [List.cons_append,Lib.parseUint10]
    split
    · split
      · rfl
      · split
        · rfl
        · exact parseUint10_append l r _
    · rfl
theorem parse_decDigits (u:Nat):u<9223372036854775809→Lib.parseUint10 0 (Lib.decDigits u) = .ok u:=by
  induction u using Nat.strongRecOn with
  | _ u ih =>
    intro hu
    rw [Lib.decDigits]
    by_cases h:u<10
    · rw [dif_pos h]
      have:(UInt8.ofNat (48+u)).toNat=48+u:=by simp;omega
      simp only [Lib.parseUint10,this]
      rw [if_pos (by omega),if_neg (by omega),if_neg (by omega)]
      congr 1
      omega
    · rw [dif_neg h,parseUint10_append,ih (u / 10) (by omega) (by omega)]
      have:(UInt8.ofNat (48+u % 10)).toNat=48+u % 10:=by simp;omega
      simp only [Lib.parseUint10,this]
      rw [if_pos (by omega),if_neg (by omega),if_neg (by omega)]
      congr 1
      omega
theorem decDigits_digit (u:Nat) : ∀ c ∈ Lib.decDigits u,48≤c.toNat∧c.toNat≤57:=by
  induction u using Nat.strongRecOn with
  | _ u ih =>
    intro c hc
    rw [Lib.decDigits] at hc
    by_cases h:u<10
    · rw [dif_pos h] at hc
      simp only [List.mem_singleton] at hc
      subst hc
      simp;omega
    · rw [dif_neg h] at hc
      rcases List.mem_append.1 hc with hc|hc
      · exact ih (u / 10) (by omega) c hc
      · simp only [List.mem_singleton] at hc
        subst hc
        simp;omega
theorem decDigits_ne (u:Nat):Lib.decDigits u ≠ []:=by
  rw [Lib.decDigits];split<;>simp
theorem atoi_itoa (n:Int) (h1 : -9223372036854775808≤n) (h2:n≤9223372036854775807):Lib.atoiAll (Lib.itoa n) = .ok n:=by
  unfold Lib.itoa
  by_cases hn:n<0
  · rw [if_pos hn]
    unfold Lib.atoiAll
    have e45:(45:UInt8).toNat=45:=rfl
    simp only [e45,or_true,if_true]
    have hp:Lib.parseMag (Lib.decDigits n.natAbs) = .ok n.natAbs:=by
      unfold Lib.parseMag
      rw [if_neg (decDigits_ne _),parse_decDigits _ (by omega)]
    rw [hp]
    simp only [not_true_eq_false,false_and,if_false,true_and]
    rw [if_neg (by omega)]
    congr 1
    omega
  · rw [if_neg hn]
    have hd:=decDigits_digit n.toNat
    have hp:Lib.parseMag (Lib.decDigits n.toNat) = .ok n.toNat:=by
      unfold Lib.parseMag
      rw [if_neg (decDigits_ne _),parse_decDigits _ (by omega)]
    have hne:=decDigits_ne n.toNat
    generalize Lib.decDigits n.toNat=d at *
    match d,hne with
    | c :: r,_ =>
      have hc:=hd c (by simp)
      unfold Lib.atoiAll
      simp only
      rw [if_neg (by omega),hp]
      simp only
      rw [if_neg (by omega),if_neg (by omega),if_neg (by omega)]
      congr 1
      omega
theorem itoa_bytes (n:Int) : ∀ c ∈ Lib.itoa n,c.toNat=45 ∨ (48≤c.toNat∧c.toNat≤57):=by
  intro c hc
  unfold Lib.itoa at hc
  split at hc
  · rcases List.mem_cons.1 hc with rfl|hc
    · exact .inl rfl
    · exact .inr (decDigits_digit _ c hc)
  · exact .inr (decDigits_digit _ c hc)
end Go.Proofs.YtfckjfoalpkpjaaGreatDoor.Plain
end
section
namespace Go.Proofs.YtfckjfoalpkpjaaGreatDoor.Plain
open Go.Proofs.YtfckjfoalpkpjaaGreatDoor.C
open Go.RowKit Go.Proofs.YtfckjfoalpkpjaaGreatDoorW.PrintWords Go.Proofs.YtfckjfoalpkpjaaGreatDoorW.PrintLast Go.Proofs.YtfckjfoalpkpjaaGreatDoorW.PrintMore
def In64 (n:Int):Prop := -9223372036854775808≤n∧n≤9223372036854775807
def nameOf (op:Int):List UInt8:=bl (rdOf ByteArray.empty wordNames op)
def wordsOf (x:Ins):List (List UInt8) :=
  nameOf x.f0 :: Lib.itoa x.f1 :: (if x.f0=0 then [bl x.f4] else if x.f0=2 then [Lib.itoa x.f2,Lib.itoa x.f3] else [Lib.itoa x.f2])
def textOf (x:Ins):List UInt8:=joinS [32] (wordsOf x)
def textL (p:List Ins):List UInt8:=joinS [59,32] (p.map textOf)
def TNice (x:Ins):Prop :=
  In64 x.f1∧(x.f0=0∧x.f2=0∧x.f3=0 ∨ x.f0=2∧In64 x.f2∧In64 x.f3∧bl x.f4 = [] ∨ (x.f0=1 ∨ x.f0=3 ∨ x.f0=4 ∨ x.f0=5)∧In64 x.f2∧x.f3=0∧bl x.f4 = [])
theorem tnice_of_nice {x:Ins} (h:Nice x):TNice x:=by
  unfold Nice at h
  unfold TNice In64
  obtain ⟨h0,h1,⟨a,b,c,_⟩|⟨a,b,c,d,e,f⟩|⟨a,b,c,d,e⟩|⟨a,b,c,d,e⟩⟩:=h
  · exact ⟨by omega,.inl ⟨a,b,c⟩⟩
  · exact ⟨by omega,.inr (.inl ⟨a,by omega,by omega,f⟩)⟩
  · exact ⟨by omega,.inr (.inr ⟨by omega,by omega,d,e⟩)⟩
  · exact ⟨by omega,.inr (.inr ⟨by omega,by omega,d,e⟩)⟩
theorem op_range {x:Ins} (h:TNice x):0≤x.f0∧x.f0<6:=by
  obtain ⟨_,h⟩:=h
  omega
theorem itoa_no (n:Int):(32:UInt8) ∉ Lib.itoa n∧(59:UInt8) ∉ Lib.itoa n:=by
  constructor<;>intro h<;>(have:=itoa_bytes n _ h;revert this;decide)
theorem name_no (op:Int) (h0:0≤op) (h6:op<6):(32:UInt8) ∉ nameOf op∧(59:UInt8) ∉ nameOf op∧(nameOf op).length≤4:=by
  obtain ⟨n,rfl⟩:=Int.eq_ofNat_of_zero_le h0
  have:n<6:=by omega
  rcases (by omega:n=0 ∨ n=1 ∨ n=2 ∨ n=3 ∨ n=4 ∨ n=5) with h|h|h|h|h|h<;>subst h<;>decide
theorem tree_bytes {l:List UInt8} (h:IsT l) : ∀ c ∈ l,c=48 ∨ c=49:=by
  obtain ⟨t,rfl⟩:=h
  induction t with
  | nil=>intro c hc;simp [Tr.enc] at hc;exact .inl hc
  | cons a b iha ihb =>
    intro c hc
    simp only [Tr.enc,List.mem_cons,List.mem_append] at hc
    rcases hc with rfl|hc|hc
    · exact .inr rfl
    · exact iha c hc
    · exact ihb c hc
theorem tree_no {l:List UInt8} (h:IsT l):(32:UInt8) ∉ l∧(59:UInt8) ∉ l:=by
  constructor<;>intro hc<;>(have:=tree_bytes h _ hc;revert this;decide)
theorem nice_tree {x:Ins} (h:Nice x):(32:UInt8) ∉ bl x.f4∧(59:UInt8) ∉ bl x.f4:=by
  obtain ⟨_,_,h|h|h|h⟩:=h
  · exact tree_no h.2.2.2.1
  · rw [h.2.2.2.2.2];simp
  · rw [h.2.2.2.2];simp
  · rw [h.2.2.2.2];simp
theorem words_no {x:Ins} (h:TNice x) {c:UInt8} (hc:c=32 ∨ c=59) (ht:c ∉ bl x.f4) : ∀ w ∈ wordsOf x,c ∉ w:=by
  have hop:=op_range h
  have hn:=name_no x.f0 hop.1 hop.2
  have hi : ∀ n,c ∉ Lib.itoa n:=by
    intro n
    rcases hc with rfl|rfl
    · exact (itoa_no n).1
    · exact (itoa_no n).2
  have hn':c ∉ nameOf x.f0:=by
    rcases hc with rfl|rfl
    · exact hn.1
    · exact hn.2.1
  intro w hw
  unfold wordsOf at hw
  rcases List.mem_cons.1 hw with rfl|hw
  · exact hn'
  rcases List.mem_cons.1 hw with rfl|hw
  · exact hi _
  split at hw
  · rw [List.mem_singleton.1 hw];exact ht
  · split at hw
    · rcases List.mem_cons.1 hw with rfl|hw
      · exact hi _
      · rw [List.mem_singleton.1 hw];exact hi _
    · rw [List.mem_singleton.1 hw];exact hi _
theorem joinS_no {c:UInt8} {sep:List UInt8} (hs:c ∉ sep) : ∀ (l:List (List UInt8)),(∀ w ∈ l,c ∉ w)→c ∉ joinS sep l
  | [],_=>by simp [joinS]
  | [x],h=>h x (by simp)
  | x :: y :: l,h=>by
    rw [joinS]
    intro hm
    rcases List.mem_append.1 hm with hm|hm
    · rcases List.mem_append.1 hm with hm|hm
      · exact h x (by simp) hm
      · exact hs hm
    · exact joinS_no hs (y :: l) (fun w hw=>h w (List.mem_cons_of_mem _ hw)) hm
theorem textOf_no {x:Ins} (h:TNice x) (ht:(59:UInt8) ∉ bl x.f4):(59:UInt8) ∉ textOf x :=
  joinS_no (by decide) _ (words_no h (.inr rfl) ht)
theorem integer_tells (s:ByteArray) (hz:s.size≤4000000) : ∃ n ok,code_integer.f s=some (n,ok)∧(ok=true→In64 n∧bl s=Lib.itoa n)∧(∀ m,In64 m→bl s=Lib.itoa m→ok=true∧n=m):=by
  unfold code_integer.f
  rw [if_pos (by omega)]
  unfold integerV
  cases h:Lib.atoiAll s.data.toList with
  | ok v =>
    refine ⟨v,_,rfl,fun e=>⟨atoiAll_range h,(beq_iff_eq.1 e).symm⟩,fun m hm e=>?_⟩
    have:=atoi_itoa m hm.1 hm.2
    rw [← e] at this
    rw [show bl s=s.data.toList from rfl,h] at this
    injection this with this
    subst this;exact ⟨beq_iff_eq.2 e.symm,rfl⟩
  | range =>
    refine ⟨_,_,rfl,fun e=>(by cases e),fun m hm e=>?_⟩
    have:=atoi_itoa m hm.1 hm.2
    rw [← e] at this
    rw [show bl s=s.data.toList from rfl,h] at this
    cases this
  | _ =>
    refine ⟨_,_,rfl,fun e=>(by cases e),fun m hm e=>?_⟩
    have:=atoi_itoa m hm.1 hm.2
    rw [← e] at this
    rw [show bl s=s.data.toList from rfl,h] at this
    cases this
theorem ints_tells : ∀ (l:List ByteArray) (p:List Int),(∀ s ∈ l,s.size≤4000000)→p.length+l.length≤10000000 →
    ∃ q,eachInt l p=some q∧(∀ r,q=some r → ∃ ns,r=p ++ ns∧(∀ n ∈ ns,In64 n)∧l.map bl=ns.map Lib.itoa)∧(∀ ns,(∀ n ∈ ns,In64 n)→l.map bl=ns.map Lib.itoa→q=some (p ++ ns))
  | [],p,_,_=>by
    refine ⟨some p,rfl,fun r e=>⟨[],?_,by simp,rfl⟩,fun ns _ e=>?_⟩
    · injection e with e;simp [e]
    · have:ns = []:=by simpa using e.symm
      rw [this];simp
  | s :: l,p,hz,hl=>by
    simp only [List.length_cons] at hl
    obtain ⟨n,ok,e,h1,h2⟩:=integer_tells s (hz s (by simp))
    rw [eachInt,e,Option.bind_some]
    cases ok with
    | false =>
      refine ⟨none,by simp,fun r e=>(by cases e),fun ns hn e=>?_⟩
      cases ns with
      | nil=>simp at e
      | cons m ns =>
        simp only [List.map_cons,List.cons.injEq] at e
        have:=(h2 m (hn m (by simp)) e.1).1
        cases this
    | true =>
      obtain ⟨q,eq,q1,q2⟩:=ints_tells l (p ++ [n]) (fun t ht=>hz t (List.mem_cons_of_mem _ ht)) (by rw [List.length_append,List.length_singleton];omega)
      refine ⟨q,?_,fun r er=>?_,fun ns hn e=>?_⟩
      · rw [if_pos rfl,if_pos (by omega)];exact eq
      · obtain ⟨ns,a,b,c⟩:=q1 r er
        refine ⟨n :: ns,by rw [a];simp,fun m hm=>?_,by rw [List.map_cons,List.map_cons,(h1 rfl).2,c]⟩
        rcases List.mem_cons.1 hm with rfl|hm
        · exact (h1 rfl).1
        · exact b m hm
      · cases ns with
        | nil=>simp at e
        | cons m ns =>
          simp only [List.map_cons,List.cons.injEq] at e
          obtain ⟨_,rfl⟩:=h2 m (hn m (by simp)) e.1
          rw [q2 ns (fun t ht=>hn t (List.mem_cons_of_mem _ ht)) e.2]
          simp
theorem split_tells (s sep:ByteArray) (hz:s.size≤4000000) (hs:1≤sep.size) :
    ∃ l,strings_Split.f s sep=some l∧l.map bl=Lib.splitK (bl sep) 0 (Lib.count (bl s) (bl sep)) (bl s)∧l.length≤4000001 ∧ ∀ t ∈ l,t.size≤4000000:=by
  unfold strings_Split.f
  rw [if_pos ⟨by omega,hs⟩]
  refine ⟨_,rfl,Lib.splitB_data sep 0 _ s,?_,?_⟩
  · have h1:=Lib.splitB_length_le sep 0 (Lib.countB s sep) s
    have h2:=Lib.countB_le sep hs _ s (Nat.le_refl _)
    omega
  · have hk : ∀ (k:Nat) (s:ByteArray),∀ t ∈ Lib.splitB sep 0 k s,t.size≤s.size:=by
      intro k
      induction k with
      | zero=>intro s t ht;rw [Lib.splitB] at ht;rw [List.mem_singleton.1 ht];exact Nat.le_refl _
      | succ k ih =>
        intro s t ht
        unfold Lib.splitB at ht
        split at ht
        · rw [List.mem_singleton.1 ht];exact Nat.le_refl _
        · rcases List.mem_cons.1 ht with rfl|ht
          · rw [ByteArray.size_extract];omega
          · have:=ih _ t ht
            rw [ByteArray.size_extract] at this
            omega
    intro t ht
    have:=hk _ s t ht
    omega
end Go.Proofs.YtfckjfoalpkpjaaGreatDoor.Plain
end
section
namespace Go.Proofs.YtfckjfoalpkpjaaGreatDoor.Plain
open Go.Proofs.YtfckjfoalpkpjaaGreatDoor.C
open Go.RowKit Go.Proofs.YtfckjfoalpkpjaaGreatDoorW.PrintWords Go.Proofs.YtfckjfoalpkpjaaGreatDoorW.PrintLast Go.Proofs.YtfckjfoalpkpjaaGreatDoorW.PrintMore
theorem rdOf_nat (l:List ByteArray) (i:Nat) (h:i<l.length):rdOf ByteArray.empty l (i:Int)=l[i]:=by simp [rdOf,h]
theorem words_set {x:Ins} (h:x.f0=0):wordsOf x = [nameOf 0,Lib.itoa x.f1,bl x.f4]:=by unfold wordsOf;rw [if_pos h,h]
theorem words_cons {x:Ins} (h:x.f0=2):wordsOf x = [nameOf 2,Lib.itoa x.f1,Lib.itoa x.f2,Lib.itoa x.f3]:=by unfold wordsOf;rw [if_neg (by omega),if_pos h,h]
theorem words_two {x:Ins} (h0:x.f0 ≠ 0) (h2:x.f0 ≠ 2):wordsOf x = [nameOf x.f0,Lib.itoa x.f1,Lib.itoa x.f2]:=by unfold wordsOf;rw [if_neg h0,if_neg h2]
theorem instrAt_tells (l:List ByteArray) (hl:l.length≤4000001) (hz : ∀ t ∈ l,t.size≤4000000) (h3:3≤l.length) (op:Int) (h0:0≤op) (h6:op<6) (hw:bl (rdOf ByteArray.empty l 0)=nameOf op) :
    ∃ x ok,instrAt l op=some (x,ok)∧(ok=true→TNice x∧x.f0=op∧l.map bl=wordsOf x)∧(∀ y,TNice y→y.f0=op→l.map bl=wordsOf y→ok=true∧x=y):=by
  obtain ⟨w0,w1,w2,ws,rfl⟩ : ∃ w0 w1 w2 ws,l=w0 :: w1 :: w2 :: ws:=by
    match l,h3 with
    | w0 :: w1 :: w2 :: ws,_=>exact ⟨w0,w1,w2,ws,rfl⟩
    | [w0,w1],h3=>simp at h3
    | [w0],h3=>simp at h3
    | [],h3=>simp at h3
  have e1:rdOf ByteArray.empty (w0 :: w1 :: w2 :: ws) 1=w1:=rfl
  have e2:rdOf ByteArray.empty (w0 :: w1 :: w2 :: ws) 2=w2:=rfl
  have e0:rdOf ByteArray.empty (w0 :: w1 :: w2 :: ws) 0=w0:=rfl
  rw [e0] at hw
  unfold instrAt
  by_cases hop:op=0
  · subst hop
    rw [if_pos rfl,e1,e2]
    obtain ⟨n,ok,e,g1,g2⟩:=integer_tells w1 (hz w1 (by simp))
    rw [e,Option.bind_some]
    refine ⟨_,_,rfl,fun h=>?_,fun y hy hy0 hwy=>?_⟩
    · rw [Bool.and_eq_true,beq_iff_eq] at h
      obtain ⟨hok,hlen⟩:=h
      have:ws = []:=by
        simp only [List.length_cons] at hlen
        exact List.length_eq_zero_iff.1 (by omega)
      subst this;obtain ⟨hn,hb⟩:=g1 hok
      refine ⟨⟨hn,.inl ⟨rfl,rfl,rfl⟩⟩,rfl,?_⟩
      rw [words_set rfl]
      simp only [List.map_cons,List.map_nil]
      rw [hw,hb]
    · rw [words_set hy0] at hwy
      simp only [List.map_cons,List.cons.injEq,List.map_eq_nil_iff] at hwy
      obtain ⟨_,b1,b2,rfl⟩:=hwy
      obtain ⟨hok,rfl⟩:=g2 y.f1 hy.1 b1
      obtain ⟨_,hy⟩:=hy
      rcases hy with ⟨_,y2,y3⟩|hy|hy
      · refine ⟨by rw [hok];rfl,ins_eq hy0.symm rfl y2.symm y3.symm b2⟩
      · omega
      · omega
  · rw [if_neg hop]
    have hd:(w0 :: w1 :: w2 :: ws).drop 1=w1 :: w2 :: ws:=rfl
    rw [hd]
    obtain ⟨q,e,q1,q2⟩:=ints_tells (w1 :: w2 :: ws) [] (fun t ht=>hz t (List.mem_cons_of_mem _ ht)) (by simp at hl ⊢;omega)
    rw [e,Option.bind_some]
    have hints : ∀ y,TNice y→y.f0=op→(w0 :: w1 :: w2 :: ws).map bl=wordsOf y→q=some (if op=2 then [y.f1,y.f2,y.f3] else [y.f1,y.f2]):=by
      intro y hy hy0 hwy
      rw [q2 (if op=2 then [y.f1,y.f2,y.f3] else [y.f1,y.f2])]
      · simp
      · intro n hn
        obtain ⟨a,hy⟩:=hy
        split at hn
        · rcases hy with h|⟨_,b,c,_⟩|h
          · omega
          · simp only [List.mem_cons,List.not_mem_nil,or_false] at hn
            rcases hn with rfl|rfl|rfl
            · exact a
            · exact b
            · exact c
          · omega
        · rcases hy with h|h|⟨_,b,_⟩
          · omega
          · omega
          · simp only [List.mem_cons,List.not_mem_nil,or_false] at hn
            rcases hn with rfl|rfl
            · exact a
            · exact b
      · split
        · rename_i h2
          rw [words_cons (by omega)] at hwy
          simp only [List.map_cons,List.cons.injEq] at hwy
          simpa using hwy.2
        · rename_i h2
          rw [words_two (by omega) (by omega)] at hwy
          simp only [List.map_cons,List.cons.injEq] at hwy
          simpa using hwy.2
    cases q with
    | none=>exact ⟨_,_,rfl,fun h=>(by cases h),fun y hy hy0 hwy=>by have:=hints y hy hy0 hwy;cases this⟩
    | some m =>
      obtain ⟨ns,hm,hns,hmap⟩:=q1 m rfl
      simp only [List.nil_append] at hm
      subst hm;by_cases h2:op=2
      · subst h2
        simp only [if_true]
        by_cases hl3:m.length=3
        · rw [if_pos hl3]
          match m,hl3 with
          | [a,b,c],_ =>
            refine ⟨_,_,rfl,fun _=>?_,fun y hy hy0 hwy=>⟨rfl,?_⟩⟩
            · refine ⟨⟨hns a (by simp),.inr (.inl ⟨rfl,hns b (by simp),hns c (by simp),rfl⟩)⟩,rfl,?_⟩
              rw [words_cons rfl,List.map_cons,hw,hmap]
              rfl
            · have:=hints y hy hy0 hwy
              rw [if_pos rfl] at this
              injection this with this
              simp only [List.cons.injEq,and_true] at this
              obtain ⟨_,hy⟩:=hy
              rcases hy with hy|⟨_,_,_,y4⟩|hy
              · omega
              · exact ins_eq hy0.symm this.1 this.2.1 this.2.2 y4.symm
              · omega
        · rw [if_neg hl3]
          refine ⟨_,_,rfl,fun h=>(by cases h),fun y hy hy0 hwy=>?_⟩
          have:=hints y hy hy0 hwy
          rw [if_pos rfl] at this
          injection this with this
          rw [this] at hl3
          exact absurd rfl hl3
      · have hgoal : ∃ x ok,(if m.length=2 then some ((⟨op,rd m 0,rd m 1,0,⟨#[]⟩⟩:Ins),true) else some (zI,false))=some (x,ok)∧(ok=true→TNice x∧x.f0=op∧(w0 :: w1 :: w2 :: ws).map bl=wordsOf x)∧(∀ y,TNice y→y.f0=op→(w0 :: w1 :: w2 :: ws).map bl=wordsOf y→ok=true∧x=y):=by
          by_cases hl2:m.length=2
          · rw [if_pos hl2]
            match m,hl2 with
            | [a,b],_ =>
              refine ⟨_,_,rfl,fun _=>?_,fun y hy hy0 hwy=>⟨rfl,?_⟩⟩
              · refine ⟨⟨hns a (by simp),.inr (.inr ⟨by show op=1 ∨ op=3 ∨ op=4 ∨ op=5;omega,hns b (by simp),rfl,rfl⟩)⟩,rfl,?_⟩
                rw [words_two (x:=⟨op,rd [a,b] 0,rd [a,b] 1,0,⟨#[]⟩⟩) hop h2,List.map_cons,hw,hmap]
                rfl
              · have:=hints y hy hy0 hwy
                rw [if_neg h2] at this
                injection this with this
                simp only [List.cons.injEq,and_true] at this
                obtain ⟨_,hy⟩:=hy
                rcases hy with hy|hy|⟨_,_,y3,y4⟩
                · omega
                · omega
                · exact ins_eq hy0.symm this.1 this.2 y3.symm y4.symm
          · rw [if_neg hl2]
            refine ⟨_,_,rfl,fun h=>(by cases h),fun y hy hy0 hwy=>?_⟩
            have:=hints y hy hy0 hwy
            rw [if_neg h2] at this
            injection this with this
            rw [this] at hl2
            exact absurd rfl hl2
        simpa only [if_neg h2] using hgoal
theorem name_inj (a b:Int) (ha:0≤a) (ha6:a<6) (hb:0≤b) (hb6:b<6) (h:nameOf a=nameOf b):a=b:=by
  obtain ⟨n,rfl⟩:=Int.eq_ofNat_of_zero_le ha
  obtain ⟨m,rfl⟩:=Int.eq_ofNat_of_zero_le hb
  have hn:n<6:=by omega
  have hm:m<6:=by omega
  revert h
  rcases (by omega:n=0 ∨ n=1 ∨ n=2 ∨ n=3 ∨ n=4 ∨ n=5) with h|h|h|h|h|h<;>subst h <;>
  rcases (by omega:m=0 ∨ m=1 ∨ m=2 ∨ m=3 ∨ m=4 ∨ m=5) with h|h|h|h|h|h<;>subst h<;>decide
theorem instrGo_tells (l:List ByteArray):(∃ op:Int,0≤op∧op<6∧bl (rdOf ByteArray.empty l 0)=nameOf op∧instrGo l wordNames 0=instrAt l op) ∨ ((∀ op:Int,0≤op→op<6→bl (rdOf ByteArray.empty l 0) ≠ nameOf op)∧instrGo l wordNames 0=some (zI,false)):=by
  have hgo : ∀ (op:Int) (ns:List ByteArray) (nm:ByteArray),bl nm=nameOf op→instrGo l (nm :: ns) op=if bl (rdOf ByteArray.empty l 0)=nameOf op then instrAt l op else instrGo l ns (op+1):=by
    intro op ns nm h
    rw [instrGo,toL,toL,h]
  unfold wordNames
  rw [hgo 0 _ _ (show bl (⟨#[115,101,116]⟩:ByteArray)=nameOf (0) from rfl)]
  by_cases c0:bl (rdOf ByteArray.empty l 0)=nameOf 0
  · exact .inl ⟨0,by decide,by decide,c0,by rw [if_pos c0]⟩
  rw [if_neg c0,hgo (0+1) _ _ (show bl (⟨#[109,111,118,101]⟩:ByteArray)=nameOf (0+1) from rfl)]
  by_cases c1:bl (rdOf ByteArray.empty l 0)=nameOf (0+1)
  · exact .inl ⟨0+1,by decide,by decide,c1,by rw [if_pos c1]⟩
  rw [if_neg c1,hgo (0+1+1) _ _ (show bl (⟨#[99,111,110,115]⟩:ByteArray)=nameOf (0+1+1) from rfl)]
  by_cases c2:bl (rdOf ByteArray.empty l 0)=nameOf (0+1+1)
  · exact .inl ⟨0+1+1,by decide,by decide,c2,by rw [if_pos c2]⟩
  rw [if_neg c2,hgo (0+1+1+1) _ _ (show bl (⟨#[104,101,97,100]⟩:ByteArray)=nameOf (0+1+1+1) from rfl)]
  by_cases c3:bl (rdOf ByteArray.empty l 0)=nameOf (0+1+1+1)
  · exact .inl ⟨0+1+1+1,by decide,by decide,c3,by rw [if_pos c3]⟩
  rw [if_neg c3,hgo (0+1+1+1+1) _ _ (show bl (⟨#[116,97,105,108]⟩:ByteArray)=nameOf (0+1+1+1+1) from rfl)]
  by_cases c4:bl (rdOf ByteArray.empty l 0)=nameOf (0+1+1+1+1)
  · exact .inl ⟨0+1+1+1+1,by decide,by decide,c4,by rw [if_pos c4]⟩
  rw [if_neg c4,hgo (0+1+1+1+1+1) _ _ (show bl (⟨#[106,117,109,112]⟩:ByteArray)=nameOf (0+1+1+1+1+1) from rfl)]
  by_cases c5:bl (rdOf ByteArray.empty l 0)=nameOf (0+1+1+1+1+1)
  · exact .inl ⟨0+1+1+1+1+1,by decide,by decide,c5,by rw [if_pos c5]⟩
  rw [if_neg c5]
  refine .inr ⟨fun op h0 h6=>?_,rfl⟩
  rcases (by omega:op=0 ∨ op=0+1 ∨ op=0+1+1 ∨ op=0+1+1+1 ∨ op=0+1+1+1+1 ∨ op=0+1+1+1+1+1) with h|h|h|h|h|h<;>subst h
  · exact c0
  · exact c1
  · exact c2
  · exact c3
  · exact c4
  · exact c5
theorem words_length {x:Ins}:3≤(wordsOf x).length:=by
  unfold wordsOf
  split
  · simp
  · split<;>simp
theorem instr_tells (s:ByteArray) (hz:s.size≤4000000) :
    ∃ x ok,code_instr.f s=some (x,ok)∧(ok=true→TNice x∧bl s=textOf x)∧(∀ y,TNice y→(32:UInt8) ∉ bl y.f4→bl s=textOf y→ok=true∧x=y):=by
  obtain ⟨l,e,hl,hlen,hsz⟩:=split_tells s ⟨#[32]⟩ hz (by decide)
  have e32:bl (⟨#[32]⟩:ByteArray) = [32]:=rfl
  rw [e32] at hl
  have hjoin:joinS [32] (l.map bl)=bl s:=by rw [hl];exact joinS_splitK _ _ _
  have hsplit : ∀ y,TNice y→(32:UInt8) ∉ bl y.f4→bl s=textOf y→l.map bl=wordsOf y:=by
    intro y hy ht h
    rw [hl,h]
    exact split_joinS 32 [] (wordsOf y) (by have:=words_length (x:=y);intro e;rw [e] at this;simp at this) (words_no hy (.inl rfl) ht)
  unfold code_instr.f
  rw [e,Option.bind_some]
  by_cases h3:l.length<3
  · rw [if_pos h3]
    refine ⟨_,_,rfl,fun h=>(by cases h),fun y hy ht h=>?_⟩
    have:=congrArg List.length (hsplit y hy ht h)
    rw [List.length_map] at this
    have:=words_length (x:=y)
    omega
  · rw [if_neg h3]
    have hw0 : ∀ y,l.map bl=wordsOf y→bl (rdOf ByteArray.empty l 0)=nameOf y.f0:=by
      intro y h
      match l,h with
      | w :: ws,h =>
        unfold wordsOf at h
        rw [List.map_cons,List.cons.injEq] at h
        exact h.1
      | [],h=>simp [wordsOf] at h
    rcases instrGo_tells l with ⟨op,h0,h6,hw,eg⟩|⟨hno,eg⟩
    · rw [eg]
      obtain ⟨x,ok,ex,g1,g2⟩:=instrAt_tells l hlen hsz (by omega) op h0 h6 hw
      refine ⟨x,ok,ex,fun h=>?_,fun y hy ht h=>?_⟩
      · obtain ⟨a,_,b⟩:=g1 h
        exact ⟨a,by rw [← hjoin,b];rfl⟩
      · have hwy:=hsplit y hy ht h
        have hy0:y.f0=op:=name_inj _ _ (op_range hy).1 (op_range hy).2 h0 h6 ((hw0 y hwy).symm.trans hw)
        exact g2 y hy hy0 hwy
    · rw [eg]
      refine ⟨_,_,rfl,fun h=>(by cases h),fun y hy ht h=>?_⟩
      exact absurd (hw0 y (hsplit y hy ht h)) (hno y.f0 (op_range hy).1 (op_range hy).2)
theorem instrs_tells : ∀ (l:List ByteArray) (p:List Ins),(∀ s ∈ l,s.size≤4000000)→p.length+l.length≤10000000 →
    ∃ q,eachInstr l p=some q∧(∀ r,q=some r → ∃ ys,r=p ++ ys∧(∀ y ∈ ys,TNice y)∧l.map bl=ys.map textOf)∧(∀ ys,(∀ y ∈ ys,TNice y∧(32:UInt8) ∉ bl y.f4)→l.map bl=ys.map textOf→q=some (p ++ ys))
  | [],p,_,_=>by
    refine ⟨some p,rfl,fun r e=>⟨[],?_,by simp,rfl⟩,fun ns _ e=>?_⟩
    · injection e with e;simp [e]
    · have:ns = []:=by simpa using e.symm
      rw [this];simp
  | s :: l,p,hz,hl=>by
    simp only [List.length_cons] at hl
    obtain ⟨n,ok,e,h1,h2⟩:=instr_tells s (hz s (by simp))
    rw [eachInstr,e,Option.bind_some]
    cases ok with
    | false =>
      refine ⟨none,by simp,fun r e=>(by cases e),fun ns hn e=>?_⟩
      cases ns with
      | nil=>simp at e
      | cons m ns =>
        simp only [List.map_cons,List.cons.injEq] at e
        have:=(h2 m (hn m (by simp)).1 (hn m (by simp)).2 e.1).1
        cases this
    | true =>
      obtain ⟨q,eq,q1,q2⟩:=instrs_tells l (p ++ [n]) (fun t ht=>hz t (List.mem_cons_of_mem _ ht)) (by rw [List.length_append,List.length_singleton];omega)
      refine ⟨q,?_,fun r er=>?_,fun ns hn e=>?_⟩
      · rw [if_pos rfl,if_pos (by omega)];exact eq
      · obtain ⟨ns,a,b,c⟩:=q1 r er
        refine ⟨n :: ns,by rw [a];simp,fun m hm=>?_,by rw [List.map_cons,List.map_cons,(h1 rfl).2,c]⟩
        rcases List.mem_cons.1 hm with rfl|hm
        · exact (h1 rfl).1
        · exact b m hm
      · cases ns with
        | nil=>simp at e
        | cons m ns =>
          simp only [List.map_cons,List.cons.injEq] at e
          obtain ⟨_,rfl⟩:=h2 m (hn m (by simp)).1 (hn m (by simp)).2 e.1
          rw [q2 ns (fun t ht=>hn t (List.mem_cons_of_mem _ ht)) e.2]
          simp
theorem mem_sizes : ∀ (p:List Ins) (x:Ins),x ∈ p→x.f4.size≤sizes p
  | y :: p,x,h=>by
    simp only [sizes,List.map_cons,List.sum_cons]
    rcases List.mem_cons.1 h with rfl|h
    · omega
    · have:=mem_sizes p x h
      simp only [sizes] at this
      omega
theorem okp_text {p:List Ins} (h:OKP p) : ∀ x ∈ p,TNice x∧x.f4.size≤2000000:=by
  intro x hx
  refine ⟨tnice_of_nice (okp_nice h x hx),?_⟩
  have h1:sizes p≤2000000:=h.2.1
  have:=mem_sizes p x hx
  omega
theorem words_ne (x:Ins):wordsOf x ≠ []:=by
  have:=words_length (x:=x)
  intro e;rw [e] at this;simp at this
theorem textOf_ne (x:Ins):textOf x ≠ []:=by
  unfold textOf wordsOf
  rw [joinS_cons _ _ _ (by simp)]
  simp
theorem parse_tells (s:ByteArray) (k:Nat) (hk:4010≤k) :
    (∃ p,code_Parse.f k s=some (p,0)∧OKP p∧bl s=textL p∧s.size≤4000000) ∨
    (code_Parse.f k s=some ([],5) ∧ ∀ p,OKP p→s.size≤4000000→bl s ≠ textL p):=by
  unfold code_Parse.f
  by_cases hz:4000000<s.size
  · rw [if_pos hz]
    exact .inr ⟨rfl,fun p _ h=>by omega⟩
  rw [if_neg hz,toL]
  by_cases he:bl s = []
  · rw [if_pos he]
    exact .inl ⟨[],rfl,⟨by simp,by simp,fun j hj=>by simp at hj⟩,he,by omega⟩
  rw [if_neg he]
  obtain ⟨l,e,hl,hlen,hsz⟩:=split_tells s ⟨#[59,32]⟩ (by omega) (by decide)
  have e59:bl (⟨#[59,32]⟩:ByteArray) = [59,32]:=rfl
  rw [e59] at hl
  have hjoin:joinS [59,32] (l.map bl)=bl s:=by rw [hl];exact joinS_splitK _ _ _
  obtain ⟨q,eq,q1,q2⟩:=instrs_tells l [] hsz (by simp;omega)
  rw [e,Option.bind_some,eq,Option.bind_some]
  have hyes : ∀ p,OKP p→bl s=textL p→q=some p:=by
    intro p hp h
    have hne:p.map textOf ≠ []:=by
      intro e
      have:p = []:=by simpa using e
      rw [this] at h
      exact he h
    have:l.map bl=p.map textOf:=by
      rw [hl,h]
      refine split_joinS 59 [32] (p.map textOf) hne (fun x hx=>?_)
      obtain ⟨y,hy,rfl⟩:=List.mem_map.1 hx
      have hn:=okp_nice hp y hy
      exact textOf_no (tnice_of_nice hn) (nice_tree hn).2
    have:=q2 p (fun y hy=>⟨tnice_of_nice (okp_nice hp y hy),(nice_tree (okp_nice hp y hy)).1⟩) this
    simpa using this
  cases q with
  | none=>exact .inr ⟨rfl,fun p hp _ h=>by have:=hyes p hp h;cases this⟩
  | some p =>
    obtain ⟨ys,hp,_,hmap⟩:=q1 p rfl
    simp only [List.nil_append] at hp
    subst hp;by_cases hok:OKP p
    · refine .inl ⟨p,?_,hok,?_,by omega⟩
      · show (code_Valid.f k p).bind _=_
        rw [validp_yes hk hok,Option.bind_some,if_pos rfl]
      · rw [← hjoin,hmap];rfl
    · refine .inr ⟨?_,fun p' hp' _ h=>hok ?_⟩
      · show (code_Valid.f k p).bind _=_
        rw [validp_no hk hok,Option.bind_some,if_neg (by decide)]
      · have:=hyes p' hp' h
        injection this with this
        rw [this];exact hp'
end Go.Proofs.YtfckjfoalpkpjaaGreatDoor.Plain
end
namespace Go.Proofs.YtfckjfoalpkpjaaGreatDoor.C
open Go.RowKit Go.Proofs.YtfckjfoalpkpjaaGreatDoorW.PrintWords Go.Proofs.YtfckjfoalpkpjaaGreatDoorW.PrintLast Go.Proofs.YtfckjfoalpkpjaaGreatDoorW.PrintMore
section
attribute [local go_sem] max2_int min2_int max_two min_two max_three min_three max_four min_four
def narcissuslaw02_awake.f (k:Nat)  : Option (Bool):=(some (([(⟨4,0,0,0,(⟨#[]⟩:ByteArray)⟩:S42)]:List (S42)):List (S42))).bind fun y1=>((code_Code.f k y1).bind fun bt4=>((code_Decode.f k (⟨#[49,49,49,48,49,48,49,48,49,48,48,49,48,48,48]⟩:ByteArray)).bind fun bt6=>((code_Parse.f k (⟨#[115,101,116,32,49,32,49,48,48,59,32,99,111,110,115,32,48,32,49,32,48,59,32,106,117,109,112,32,48,32,45,50]⟩:ByteArray)).bind fun bt10=>(if bt4.2=0 then (if bt4.1.toList=([49,49,49,48,49,48,49,48,49,48,48,49,48,48,48]:List UInt8) then (if bt6.2=0 then ((narcissusref02_Same.f k bt6.1 y1).bind fun t14=>(if t14=true then (if bt10.2=0 then ((narcissusref02_Same.f k bt10.1 (([(⟨0,1,0,0,(⟨#[49,48,48]⟩:ByteArray)⟩:S42),(⟨2,0,1,0,(⟨#[]⟩:ByteArray)⟩:S42),(⟨5,0,(-2),0,(⟨#[]⟩:ByteArray)⟩:S42)]:List (S42)))).bind fun t18=>(if t18=true then ((code_Valid.f k (([(⟨5,0,1,0,(⟨#[]⟩:ByteArray)⟩:S42)]:List (S42)))).bind fun t22=>(if t22=true then ((code_Valid.f k (([(⟨5,0,2,0,(⟨#[]⟩:ByteArray)⟩:S42)]:List (S42)))).bind fun t26=>(if t26=true then (some false) else ((code_Valid.f k (([(⟨1,0,32,0,(⟨#[]⟩:ByteArray)⟩:S42)]:List (S42)))).bind fun t30=>(some (!t30))))) else (some false))) else (some false))) else (some false)) else (some false))) else (some false)) else (some false)) else (some false)))))
theorem narcissuslaw02_awake.mono : ∀ k,LeO (narcissuslaw02_awake.f k ) (narcissuslaw02_awake.f (k+1) ):=by
 intro  k
 unfold narcissuslaw02_awake.f
 repeat' first
   | (with_reducible exact code_Code.mono _ _)
   | (with_reducible exact code_Decode.mono _ _)
   | (with_reducible exact code_Parse.mono _ _)
   | (with_reducible exact code_Valid.mono _ _)
   | (with_reducible exact narcissusref02_Same.mono _ _ _)
   | (with_reducible exact LeO.refl _)
   | (with_reducible exact LeO.none _)
   | (with_reducible refine LeO.ite ?_ ?_)
   | (with_reducible refine LeO.bind ?_ (fun _=>?_))
   | exact code_Code.mono _ _
   | exact code_Decode.mono _ _
   | exact code_Parse.mono _ _
   | exact code_Valid.mono _ _
   | exact narcissusref02_Same.mono _ _ _
   | exact LeO.none _
   | refine LeO.ite ?_ ?_
   | refine LeO.bind ?_ (fun _=>?_)
set_option maxHeartbeats 8000000 in
set_option maxRecDepth 100000 in
theorem narcissuslaw02_awake.calls (k:Nat)  (r:Bool) (w:World) (hL:LaidW w) (h:narcissuslaw02_awake.f k  = some r) :
  Calls Tryz.prog 10 #[] w fun e w'=>e = .returned (.bool r)∧Below w.heap.size w w':=by
 have hu42:=Tryz.underlying42
 have HLD:=Aside0.mk hL
 clear hL;have HB:=Aside0.mk (Below.refl w.heap.size w)
 have H:((some (([(⟨4,0,0,0,(⟨#[]⟩:ByteArray)⟩:S42)]:List (S42)):List (S42))).bind fun y1=>((code_Code.f k y1).bind fun bt4=>((code_Decode.f k (⟨#[49,49,49,48,49,48,49,48,49,48,48,49,48,48,48]⟩:ByteArray)).bind fun bt6=>((code_Parse.f k (⟨#[115,101,116,32,49,32,49,48,48,59,32,99,111,110,115,32,48,32,49,32,48,59,32,106,117,109,112,32,48,32,45,50]⟩:ByteArray)).bind fun bt10=>(if bt4.2=0 then (if bt4.1.toList=([49,49,49,48,49,48,49,48,49,48,48,49,48,48,48]:List UInt8) then (if bt6.2=0 then ((narcissusref02_Same.f k bt6.1 y1).bind fun t14=>(if t14=true then (if bt10.2=0 then ((narcissusref02_Same.f k bt10.1 (([(⟨0,1,0,0,(⟨#[49,48,48]⟩:ByteArray)⟩:S42),(⟨2,0,1,0,(⟨#[]⟩:ByteArray)⟩:S42),(⟨5,0,(-2),0,(⟨#[]⟩:ByteArray)⟩:S42)]:List (S42)))).bind fun t18=>(if t18=true then ((code_Valid.f k (([(⟨5,0,1,0,(⟨#[]⟩:ByteArray)⟩:S42)]:List (S42)))).bind fun t22=>(if t22=true then ((code_Valid.f k (([(⟨5,0,2,0,(⟨#[]⟩:ByteArray)⟩:S42)]:List (S42)))).bind fun t26=>(if t26=true then (some false) else ((code_Valid.f k (([(⟨1,0,32,0,(⟨#[]⟩:ByteArray)⟩:S42)]:List (S42)))).bind fun t30=>(some (!t30))))) else (some false))) else (some false))) else (some false)) else (some false))) else (some false)) else (some false)) else (some false))))))=some r:=h
 clear h;obtain ⟨y1,hy1⟩ : ∃ y_:List (S42),y_=(([(⟨4,0,0,0,(⟨#[]⟩:ByteArray)⟩:S42)]:List (S42))):=⟨_,rfl⟩
 replace H:((code_Code.f k y1).bind fun bt4=>((code_Decode.f k (⟨#[49,49,49,48,49,48,49,48,49,48,48,49,48,48,48]⟩:ByteArray)).bind fun bt6=>((code_Parse.f k (⟨#[115,101,116,32,49,32,49,48,48,59,32,99,111,110,115,32,48,32,49,32,48,59,32,106,117,109,112,32,48,32,45,50]⟩:ByteArray)).bind fun bt10=>(if bt4.2=0 then (if bt4.1.toList=([49,49,49,48,49,48,49,48,49,48,48,49,48,48,48]:List UInt8) then (if bt6.2=0 then ((narcissusref02_Same.f k bt6.1 y1).bind fun t14=>(if t14=true then (if bt10.2=0 then ((narcissusref02_Same.f k bt10.1 (([(⟨0,1,0,0,(⟨#[49,48,48]⟩:ByteArray)⟩:S42),(⟨2,0,1,0,(⟨#[]⟩:ByteArray)⟩:S42),(⟨5,0,(-2),0,(⟨#[]⟩:ByteArray)⟩:S42)]:List (S42)))).bind fun t18=>(if t18=true then ((code_Valid.f k (([(⟨5,0,1,0,(⟨#[]⟩:ByteArray)⟩:S42)]:List (S42)))).bind fun t22=>(if t22=true then ((code_Valid.f k (([(⟨5,0,2,0,(⟨#[]⟩:ByteArray)⟩:S42)]:List (S42)))).bind fun t26=>(if t26=true then (some false) else ((code_Valid.f k (([(⟨1,0,32,0,(⟨#[]⟩:ByteArray)⟩:S42)]:List (S42)))).bind fun t30=>(some (!t30))))) else (some false))) else (some false))) else (some false)) else (some false))) else (some false)) else (some false)) else (some false)))))=some r:=by first|(rw [hy1];with_reducible exact H)|(have H2_:=(Option.bind_some _ _).symm.trans H;rw [hy1];with_reducible exact H2_)|(have H2_:=(Option.bind_some _ _).symm.trans H;with_reducible exact H2_)|with_reducible exact H|(rw [hy1];exact H)|exact H
 have Ny1:=Aside0.mk hy1
 clear hy1;replace H:=Option.bind_eq_some_iff.mp H
 obtain ⟨⟨t4,t5⟩,A10,H⟩:=H
 replace H:((code_Decode.f k (⟨#[49,49,49,48,49,48,49,48,49,48,48,49,48,48,48]⟩:ByteArray)).bind fun bt6=>((code_Parse.f k (⟨#[115,101,116,32,49,32,49,48,48,59,32,99,111,110,115,32,48,32,49,32,48,59,32,106,117,109,112,32,48,32,45,50]⟩:ByteArray)).bind fun bt10=>(if t5=0 then (if t4.toList=([49,49,49,48,49,48,49,48,49,48,48,49,48,48,48]:List UInt8) then (if bt6.2=0 then ((narcissusref02_Same.f k bt6.1 y1).bind fun t14=>(if t14=true then (if bt10.2=0 then ((narcissusref02_Same.f k bt10.1 (([(⟨0,1,0,0,(⟨#[49,48,48]⟩:ByteArray)⟩:S42),(⟨2,0,1,0,(⟨#[]⟩:ByteArray)⟩:S42),(⟨5,0,(-2),0,(⟨#[]⟩:ByteArray)⟩:S42)]:List (S42)))).bind fun t18=>(if t18=true then ((code_Valid.f k (([(⟨5,0,1,0,(⟨#[]⟩:ByteArray)⟩:S42)]:List (S42)))).bind fun t22=>(if t22=true then ((code_Valid.f k (([(⟨5,0,2,0,(⟨#[]⟩:ByteArray)⟩:S42)]:List (S42)))).bind fun t26=>(if t26=true then (some false) else ((code_Valid.f k (([(⟨1,0,32,0,(⟨#[]⟩:ByteArray)⟩:S42)]:List (S42)))).bind fun t30=>(some (!t30))))) else (some false))) else (some false))) else (some false)) else (some false))) else (some false)) else (some false)) else (some false))))=some r:=H
 have A1:=Aside0.mk A10
 clear A10;replace H:=Option.bind_eq_some_iff.mp H
 obtain ⟨⟨t6,t7⟩,A20,H⟩:=H
 replace H:((code_Parse.f k (⟨#[115,101,116,32,49,32,49,48,48,59,32,99,111,110,115,32,48,32,49,32,48,59,32,106,117,109,112,32,48,32,45,50]⟩:ByteArray)).bind fun bt10=>(if t5=0 then (if t4.toList=([49,49,49,48,49,48,49,48,49,48,48,49,48,48,48]:List UInt8) then (if t7=0 then ((narcissusref02_Same.f k t6 y1).bind fun t14=>(if t14=true then (if bt10.2=0 then ((narcissusref02_Same.f k bt10.1 (([(⟨0,1,0,0,(⟨#[49,48,48]⟩:ByteArray)⟩:S42),(⟨2,0,1,0,(⟨#[]⟩:ByteArray)⟩:S42),(⟨5,0,(-2),0,(⟨#[]⟩:ByteArray)⟩:S42)]:List (S42)))).bind fun t18=>(if t18=true then ((code_Valid.f k (([(⟨5,0,1,0,(⟨#[]⟩:ByteArray)⟩:S42)]:List (S42)))).bind fun t22=>(if t22=true then ((code_Valid.f k (([(⟨5,0,2,0,(⟨#[]⟩:ByteArray)⟩:S42)]:List (S42)))).bind fun t26=>(if t26=true then (some false) else ((code_Valid.f k (([(⟨1,0,32,0,(⟨#[]⟩:ByteArray)⟩:S42)]:List (S42)))).bind fun t30=>(some (!t30))))) else (some false))) else (some false))) else (some false)) else (some false))) else (some false)) else (some false)) else (some false)))=some r:=H
 have A2:=Aside0.mk A20
 clear A20;replace H:=Option.bind_eq_some_iff.mp H
 obtain ⟨⟨t10,t11⟩,A30,H⟩:=H
 replace H:(if t5=0 then (if t4.toList=([49,49,49,48,49,48,49,48,49,48,48,49,48,48,48]:List UInt8) then (if t7=0 then ((narcissusref02_Same.f k t6 y1).bind fun t14=>(if t14=true then (if t11=0 then ((narcissusref02_Same.f k t10 (([(⟨0,1,0,0,(⟨#[49,48,48]⟩:ByteArray)⟩:S42),(⟨2,0,1,0,(⟨#[]⟩:ByteArray)⟩:S42),(⟨5,0,(-2),0,(⟨#[]⟩:ByteArray)⟩:S42)]:List (S42)))).bind fun t18=>(if t18=true then ((code_Valid.f k (([(⟨5,0,1,0,(⟨#[]⟩:ByteArray)⟩:S42)]:List (S42)))).bind fun t22=>(if t22=true then ((code_Valid.f k (([(⟨5,0,2,0,(⟨#[]⟩:ByteArray)⟩:S42)]:List (S42)))).bind fun t26=>(if t26=true then (some false) else ((code_Valid.f k (([(⟨1,0,32,0,(⟨#[]⟩:ByteArray)⟩:S42)]:List (S42)))).bind fun t30=>(some (!t30))))) else (some false))) else (some false))) else (some false)) else (some false))) else (some false)) else (some false)) else (some false))=some r:=H
 have A3:=Aside0.mk A30
 clear A30;by_cases c4:t5=0
 ·rw [if_pos c4] at H
  have c4b0:(t5 == 0)=true:=beq_iff_eq.mpr c4
  have c4b1:(t5 != 0)=false:=bne_eq_false_iff_eq.mpr c4
  clear c4;by_cases c5:t4.toList=([49,49,49,48,49,48,49,48,49,48,48,49,48,48,48]:List UInt8)
  ·rw [if_pos c5] at H
   have c5b0:(t4.toList == ([49,49,49,48,49,48,49,48,49,48,48,49,48,48,48]:List UInt8))=true:=beq_iff_eq.mpr c5
   have c5b1:(t4.toList != ([49,49,49,48,49,48,49,48,49,48,48,49,48,48,48]:List UInt8))=false:=bne_eq_false_iff_eq.mpr c5
   clear c5;by_cases c6:t7=0
   ·rw [if_pos c6] at H
    have c6b0:(t7 == 0)=true:=beq_iff_eq.mpr c6
    have c6b1:(t7 != 0)=false:=bne_eq_false_iff_eq.mpr c6
    clear c6;replace H:=Option.bind_eq_some_iff.mp H
    obtain ⟨t14,A70,H⟩:=H
    replace H:(if t14=true then (if t11=0 then ((narcissusref02_Same.f k t10 (([(⟨0,1,0,0,(⟨#[49,48,48]⟩:ByteArray)⟩:S42),(⟨2,0,1,0,(⟨#[]⟩:ByteArray)⟩:S42),(⟨5,0,(-2),0,(⟨#[]⟩:ByteArray)⟩:S42)]:List (S42)))).bind fun t18=>(if t18=true then ((code_Valid.f k (([(⟨5,0,1,0,(⟨#[]⟩:ByteArray)⟩:S42)]:List (S42)))).bind fun t22=>(if t22=true then ((code_Valid.f k (([(⟨5,0,2,0,(⟨#[]⟩:ByteArray)⟩:S42)]:List (S42)))).bind fun t26=>(if t26=true then (some false) else ((code_Valid.f k (([(⟨1,0,32,0,(⟨#[]⟩:ByteArray)⟩:S42)]:List (S42)))).bind fun t30=>(some (!t30))))) else (some false))) else (some false))) else (some false)) else (some false))=some r:=H
    have A7:=Aside0.mk A70
    clear A70;by_cases c8:t14=true
    ·subst c8
     have H1:(if t11=0 then ((narcissusref02_Same.f k t10 (([(⟨0,1,0,0,(⟨#[49,48,48]⟩:ByteArray)⟩:S42),(⟨2,0,1,0,(⟨#[]⟩:ByteArray)⟩:S42),(⟨5,0,(-2),0,(⟨#[]⟩:ByteArray)⟩:S42)]:List (S42)))).bind fun t18=>(if t18=true then ((code_Valid.f k (([(⟨5,0,1,0,(⟨#[]⟩:ByteArray)⟩:S42)]:List (S42)))).bind fun t22=>(if t22=true then ((code_Valid.f k (([(⟨5,0,2,0,(⟨#[]⟩:ByteArray)⟩:S42)]:List (S42)))).bind fun t26=>(if t26=true then (some false) else ((code_Valid.f k (([(⟨1,0,32,0,(⟨#[]⟩:ByteArray)⟩:S42)]:List (S42)))).bind fun t30=>(some (!t30))))) else (some false))) else (some false))) else (some false))=some r:=by rw [if_pos rfl] at H;exact H
     clear H;have H:=H1
     clear H1;by_cases c9:t11=0
     ·rw [if_pos c9] at H
      have c9b0:(t11 == 0)=true:=beq_iff_eq.mpr c9
      have c9b1:(t11 != 0)=false:=bne_eq_false_iff_eq.mpr c9
      clear c9;obtain ⟨y15,hy15⟩ : ∃ y_:List (S42),y_=(([(⟨0,1,0,0,(⟨#[49,48,48]⟩:ByteArray)⟩:S42),(⟨2,0,1,0,(⟨#[]⟩:ByteArray)⟩:S42),(⟨5,0,(-2),0,(⟨#[]⟩:ByteArray)⟩:S42)]:List (S42))):=⟨_,rfl⟩
      replace H:((narcissusref02_Same.f k t10 y15).bind fun t18=>(if t18=true then ((code_Valid.f k (([(⟨5,0,1,0,(⟨#[]⟩:ByteArray)⟩:S42)]:List (S42)))).bind fun t22=>(if t22=true then ((code_Valid.f k (([(⟨5,0,2,0,(⟨#[]⟩:ByteArray)⟩:S42)]:List (S42)))).bind fun t26=>(if t26=true then (some false) else ((code_Valid.f k (([(⟨1,0,32,0,(⟨#[]⟩:ByteArray)⟩:S42)]:List (S42)))).bind fun t30=>(some (!t30))))) else (some false))) else (some false)))=some r:=by first|(rw [hy15];with_reducible exact H)|(have H2_:=(Option.bind_some _ _).symm.trans H;rw [hy15];with_reducible exact H2_)|(have H2_:=(Option.bind_some _ _).symm.trans H;with_reducible exact H2_)|with_reducible exact H|(rw [hy15];exact H)|exact H
      have Ny15:=Aside0.mk hy15
      clear hy15;replace H:=Option.bind_eq_some_iff.mp H
      obtain ⟨t18,A100,H⟩:=H
      replace H:(if t18=true then ((code_Valid.f k (([(⟨5,0,1,0,(⟨#[]⟩:ByteArray)⟩:S42)]:List (S42)))).bind fun t22=>(if t22=true then ((code_Valid.f k (([(⟨5,0,2,0,(⟨#[]⟩:ByteArray)⟩:S42)]:List (S42)))).bind fun t26=>(if t26=true then (some false) else ((code_Valid.f k (([(⟨1,0,32,0,(⟨#[]⟩:ByteArray)⟩:S42)]:List (S42)))).bind fun t30=>(some (!t30))))) else (some false))) else (some false))=some r:=H
      have A10:=Aside0.mk A100
      clear A100;by_cases c11:t18=true
      ·subst c11
       have H1:((code_Valid.f k (([(⟨5,0,1,0,(⟨#[]⟩:ByteArray)⟩:S42)]:List (S42)))).bind fun t22=>(if t22=true then ((code_Valid.f k (([(⟨5,0,2,0,(⟨#[]⟩:ByteArray)⟩:S42)]:List (S42)))).bind fun t26=>(if t26=true then (some false) else ((code_Valid.f k (([(⟨1,0,32,0,(⟨#[]⟩:ByteArray)⟩:S42)]:List (S42)))).bind fun t30=>(some (!t30))))) else (some false)))=some r:=by rw [if_pos rfl] at H;exact H
       clear H;have H:=H1
       clear H1;obtain ⟨y19,hy19⟩ : ∃ y_:List (S42),y_=(([(⟨5,0,1,0,(⟨#[]⟩:ByteArray)⟩:S42)]:List (S42))):=⟨_,rfl⟩
       replace H:((code_Valid.f k y19).bind fun t22=>(if t22=true then ((code_Valid.f k (([(⟨5,0,2,0,(⟨#[]⟩:ByteArray)⟩:S42)]:List (S42)))).bind fun t26=>(if t26=true then (some false) else ((code_Valid.f k (([(⟨1,0,32,0,(⟨#[]⟩:ByteArray)⟩:S42)]:List (S42)))).bind fun t30=>(some (!t30))))) else (some false)))=some r:=by first|(rw [hy19];with_reducible exact H)|(have H2_:=(Option.bind_some _ _).symm.trans H;rw [hy19];with_reducible exact H2_)|(have H2_:=(Option.bind_some _ _).symm.trans H;with_reducible exact H2_)|with_reducible exact H|(rw [hy19];exact H)|exact H
       have Ny19:=Aside0.mk hy19
       clear hy19;replace H:=Option.bind_eq_some_iff.mp H
       obtain ⟨t22,A120,H⟩:=H
       replace H:(if t22=true then ((code_Valid.f k (([(⟨5,0,2,0,(⟨#[]⟩:ByteArray)⟩:S42)]:List (S42)))).bind fun t26=>(if t26=true then (some false) else ((code_Valid.f k (([(⟨1,0,32,0,(⟨#[]⟩:ByteArray)⟩:S42)]:List (S42)))).bind fun t30=>(some (!t30))))) else (some false))=some r:=H
       have A12:=Aside0.mk A120
       clear A120;by_cases c13:t22=true
       ·subst c13
        have H1:((code_Valid.f k (([(⟨5,0,2,0,(⟨#[]⟩:ByteArray)⟩:S42)]:List (S42)))).bind fun t26=>(if t26=true then (some false) else ((code_Valid.f k (([(⟨1,0,32,0,(⟨#[]⟩:ByteArray)⟩:S42)]:List (S42)))).bind fun t30=>(some (!t30)))))=some r:=by rw [if_pos rfl] at H;exact H
        clear H;have H:=H1
        clear H1;obtain ⟨y23,hy23⟩ : ∃ y_:List (S42),y_=(([(⟨5,0,2,0,(⟨#[]⟩:ByteArray)⟩:S42)]:List (S42))):=⟨_,rfl⟩
        replace H:((code_Valid.f k y23).bind fun t26=>(if t26=true then (some false) else ((code_Valid.f k (([(⟨1,0,32,0,(⟨#[]⟩:ByteArray)⟩:S42)]:List (S42)))).bind fun t30=>(some (!t30)))))=some r:=by first|(rw [hy23];with_reducible exact H)|(have H2_:=(Option.bind_some _ _).symm.trans H;rw [hy23];with_reducible exact H2_)|(have H2_:=(Option.bind_some _ _).symm.trans H;with_reducible exact H2_)|with_reducible exact H|(rw [hy23];exact H)|exact H
        have Ny23:=Aside0.mk hy23
        clear hy23;replace H:=Option.bind_eq_some_iff.mp H
        obtain ⟨t26,A140,H⟩:=H
        replace H:(if t26=true then (some false) else ((code_Valid.f k (([(⟨1,0,32,0,(⟨#[]⟩:ByteArray)⟩:S42)]:List (S42)))).bind fun t30=>(some (!t30))))=some r:=H
        have A14:=Aside0.mk A140
        clear A140;by_cases c15:t26=true
        ·subst c15
         have H1:(some false)=some r:=by rw [if_pos rfl] at H;exact H
         clear H;have H:=H1
         clear H1;obtain rfl:=Option.some.inj H
         go_enter Tryz.func10,Tryz.ntmps10
         go_wp2_with (first|((with_reducible refine gate_dst (N:=9) rfl ?_);(try (refine gate_guard (by rfl) ?_;dsimp only));refine Kd.R_lit k42 _ 42 ?hg (N:=9) ?hd (xs:=([(⟨4,0,0,0,(⟨#[]⟩:ByteArray)⟩:S42)]:List (S42))) (inner:=[.int .i64 4,.int .i64 0,.int .i64 0,.int .i64 0,.string (⟨#[]⟩:ByteArray)]) (ok:=fun _=>True) (okp:=fun _=>True) ?hr ?hp (fun _ hk=>hk) trivial (Below.refl _ _) (Nat.le_refl _) (by simp) ?_;(case hd=>rfl);(case hg=>rfl);(case hr=>first|(go_simp;done)|(go_simp;rfl));(case hp=>exact (Reps.c5 (show Kd.M k42 _ _ _ (⟨4,0,0,0,(⟨#[]⟩:ByteArray)⟩:S42) [.int .i64 4,.int .i64 0,.int .i64 0,.int .i64 0,.string (⟨#[]⟩:ByteArray)] from (k42_mkM _ _ _ (⟨4,0,0,0,(⟨#[]⟩:ByteArray)⟩:S42) )) (Reps.none _ _)));intro v2 w16 ho17 hb hg_ hnew_;clear hg_ hnew_;(first|rw [← Ny1.out] at ho17|(simp only [Int.reduceToNat] at ho17;rw [← Ny1.out] at ho17));have n0_:=Aside0.mk (Kd.R_lower ho17 (below_size (by repeat (first|(with_reducible first|exact HB.out|apply below_alloc|apply pw_below_drewN|apply below_drew1)|exact HB.out))));have n1_:=Aside0.mk (below_step (by repeat (first|(with_reducible first|exact HB.out|apply below_alloc|apply pw_below_drewN|apply below_drew1)|exact HB.out)) hb);clear HB;have HO3:=n0_;have HB:=n1_;clear n0_ n1_;clear hb ho17;obtain ⟨Ao18,co18,eo18⟩:=Kd.R_slice HO3.out;subst eo18)|((with_reducible refine gate_callee (f:=17) rfl ?_);refine goesL_ (some 12) rfl rfl Tryz.func17 (by kernel_rfl) rfl #[.slice Ao18 y1.length co18] rfl (by (try simp only [List.map_toArray,List.map_cons,List.map_nil]);first|done|rfl|(simp only [List.length_drop,List.length_take];rfl)) ?_;(with_reducible refine (code_Code.calls k _ _ y1 t4 t5 _ ?side1 ?side2 A1.out).mono ?_);(case side1=>repeat (first|exact (Kd.R_reads' HO3.out).2.2|(with_reducible refine Kd.C_alloc ?_ _)|(with_reducible refine Kd.C_drewN ?_ _)|(with_reducible refine Kd.C_drew ?_)));(case side2=>exact (Kd.R_reads' HO3.out).2.1);rintro e w19 ⟨rfl,hb⟩;refine ⟨_,rfl,?_⟩;have n0_:=Aside0.mk (Kd.R_below (by (with_reducible repeat (first|apply Kd.R_alloc|apply Kd.R_drewN|apply Kd.R_drew));exact HO3.out) hb);have n1_:=Aside0.mk (below_step (by repeat (first|(with_reducible first|exact HB.out|apply below_alloc|apply pw_below_drewN|apply below_drew1)|exact HB.out)) hb);clear HO3;clear HB;have HO3:=n0_;have HB:=n1_;clear n0_ n1_;(try clear hb);(try clear hb2);(try clear hk);(try clear hi))|((with_reducible refine gate_callee (f:=8) rfl ?_);refine goesL_ (some 16) rfl rfl Tryz.func8 (by kernel_rfl) rfl #[.string (⟨#[49,49,49,48,49,48,49,48,49,48,48,49,48,48,48]⟩:ByteArray)] rfl (by (try simp only [List.map_toArray,List.map_cons,List.map_nil]);first|done|rfl) ?_;(with_reducible refine (code_Decode.calls k (⟨#[49,49,49,48,49,48,49,48,49,48,48,49,48,48,48]⟩:ByteArray) t6 t7 _ A2.out).mono ?_);rintro e w20 ⟨v8,rfl,ho0,hb⟩;refine ⟨_,rfl,?_⟩;have n0_:=Aside0.mk (Kd.R_elder' (by (with_reducible repeat (first|apply Kd.R_alloc|apply Kd.R_drewN|apply Kd.R_drew));exact HO3.out) (Kd.R_base ho0) hb);have n1_:=Aside0.mk (Kd.R_lower (Kd.R_new' ho0 (Kd.R_lt (by (with_reducible repeat (first|apply Kd.R_alloc|apply Kd.R_drewN|apply Kd.R_drew));exact HO3.out))) (below_size (by repeat (first|(with_reducible first|exact HB.out|apply below_alloc|apply pw_below_drewN|apply below_drew1)|exact HB.out))));have n2_:=Aside0.mk (below_step (by repeat (first|(with_reducible first|exact HB.out|apply below_alloc|apply pw_below_drewN|apply below_drew1)|exact HB.out)) hb);clear HO3;clear HB;have HO3:=n0_;have HO9:=n1_;have HB:=n2_;clear n0_ n1_ n2_;(try clear hb);(try clear hb2);(try clear hk);(try clear hi);(try clear ho0))|((with_reducible refine gate_callee (f:=13) rfl ?_);refine goesL_ (some 20) rfl rfl Tryz.func13 (by kernel_rfl) rfl #[.string (⟨#[115,101,116,32,49,32,49,48,48,59,32,99,111,110,115,32,48,32,49,32,48,59,32,106,117,109,112,32,48,32,45,50]⟩:ByteArray)] rfl (by (try simp only [List.map_toArray,List.map_cons,List.map_nil]);first|done|rfl) ?_;(with_reducible refine (code_Parse.calls k (⟨#[115,101,116,32,49,32,49,48,48,59,32,99,111,110,115,32,48,32,49,32,48,59,32,106,117,109,112,32,48,32,45,50]⟩:ByteArray) t10 t11 _ ?side1 A3.out).mono ?_);(case side1=>first|(refine LaidW.below HLD.out ?_;with_reducible exact HB.out)|(refine LaidW.below HLD.out ?_;with_reducible apply pw_below_drewN;with_reducible exact HB.out)|(refine LaidW.below HLD.out ?_;with_reducible apply below_alloc;with_reducible exact HB.out)|(refine LaidW.below HLD.out ?_;repeat (first|(with_reducible first|exact HB.out|apply below_alloc|apply pw_below_drewN|apply below_drew1)|exact HB.out);done)|exact HLD.out|(repeat (first|exact HLD.out|(with_reducible refine LaidW.drewN ?_ _)|(with_reducible refine LaidW.drew ?_)|(with_reducible refine LaidW.alloc ?_ _))));rintro e w21 ⟨v12,rfl,ho0,hb⟩;refine ⟨_,rfl,?_⟩;have n0_:=Aside0.mk (Kd.R_elder' (by (with_reducible repeat (first|apply Kd.R_alloc|apply Kd.R_drewN|apply Kd.R_drew));exact HO3.out) (Kd.R_base ho0) hb);have n1_:=Aside0.mk (Kd.R_elder' (by (with_reducible repeat (first|apply Kd.R_alloc|apply Kd.R_drewN|apply Kd.R_drew));exact HO9.out) (Kd.R_base ho0) hb);have n2_:=Aside0.mk (Kd.R_lower (Kd.R_new' (Kd.R_new' ho0 (Kd.R_lt (by (with_reducible repeat (first|apply Kd.R_alloc|apply Kd.R_drewN|apply Kd.R_drew));exact HO3.out))) (Kd.R_lt (by (with_reducible repeat (first|apply Kd.R_alloc|apply Kd.R_drewN|apply Kd.R_drew));exact HO9.out))) (below_size (by repeat (first|(with_reducible first|exact HB.out|apply below_alloc|apply pw_below_drewN|apply below_drew1)|exact HB.out))));have n3_:=Aside0.mk (below_step (by repeat (first|(with_reducible first|exact HB.out|apply below_alloc|apply pw_below_drewN|apply below_drew1)|exact HB.out)) hb);clear HO3;clear HO9;clear HB;have HO3:=n0_;have HO9:=n1_;have HO13:=n2_;have HB:=n3_;clear n0_ n1_ n2_ n3_;(try clear hb);(try clear hb2);(try clear hk);(try clear hi);(try clear ho0);obtain ⟨Ao22,co22,eo22⟩:=Kd.R_slice HO9.out;subst eo22)|(go_at_call 12;(with_reducible refine (narcissusref02_Same.calls k _ _ t6 _ _ y1 true _ ?side1 ?side2 ?side3 ?side4 A7.out).mono ?_);(case side1=>repeat (first|exact (Kd.R_reads' HO9.out).2.2|(with_reducible refine Kd.C_alloc ?_ _)|(with_reducible refine Kd.C_drewN ?_ _)|(with_reducible refine Kd.C_drew ?_)));(case side2=>exact (Kd.R_reads' HO9.out).2.1);(case side3=>repeat (first|exact (Kd.R_reads' HO3.out).2.2|(with_reducible refine Kd.C_alloc ?_ _)|(with_reducible refine Kd.C_drewN ?_ _)|(with_reducible refine Kd.C_drew ?_)));(case side4=>exact (Kd.R_reads' HO3.out).2.1);rintro e w' ⟨rfl,⟨nd,rfl⟩⟩)|((with_reducible refine gate_dst (N:=47) rfl ?_);(try (refine gate_guard (by rfl) ?_;dsimp only));refine Kd.R_lit k42 _ 42 ?hg (N:=47) ?hd (xs:=([(⟨0,1,0,0,(⟨#[49,48,48]⟩:ByteArray)⟩:S42),(⟨2,0,1,0,(⟨#[]⟩:ByteArray)⟩:S42),(⟨5,0,(-2),0,(⟨#[]⟩:ByteArray)⟩:S42)]:List (S42))) (inner:=[.int .i64 0,.int .i64 1,.int .i64 0,.int .i64 0,.string (⟨#[49,48,48]⟩:ByteArray),.int .i64 2,.int .i64 0,.int .i64 1,.int .i64 0,.string (⟨#[]⟩:ByteArray),.int .i64 5,.int .i64 0,.int .i64 (-2),.int .i64 0,.string (⟨#[]⟩:ByteArray)]) (ok:=fun _=>True) (okp:=fun _=>True) ?hr ?hp (fun _ hk=>hk) trivial (Below.refl _ _) (Nat.le_refl _) (by simp) ?_;(case hd=>rfl);(case hg=>rfl);(case hr=>first|(go_simp;done)|(go_simp;rfl));(case hp=>exact (Reps.c5 (show Kd.M k42 _ _ _ (⟨0,1,0,0,(⟨#[49,48,48]⟩:ByteArray)⟩:S42) [.int .i64 0,.int .i64 1,.int .i64 0,.int .i64 0,.string (⟨#[49,48,48]⟩:ByteArray)] from (k42_mkM _ _ _ (⟨0,1,0,0,(⟨#[49,48,48]⟩:ByteArray)⟩:S42) )) (Reps.c5 (show Kd.M k42 _ _ _ (⟨2,0,1,0,(⟨#[]⟩:ByteArray)⟩:S42) [.int .i64 2,.int .i64 0,.int .i64 1,.int .i64 0,.string (⟨#[]⟩:ByteArray)] from (k42_mkM _ _ _ (⟨2,0,1,0,(⟨#[]⟩:ByteArray)⟩:S42) )) (Reps.c5 (show Kd.M k42 _ _ _ (⟨5,0,(-2),0,(⟨#[]⟩:ByteArray)⟩:S42) [.int .i64 5,.int .i64 0,.int .i64 (-2),.int .i64 0,.string (⟨#[]⟩:ByteArray)] from (k42_mkM _ _ _ (⟨5,0,(-2),0,(⟨#[]⟩:ByteArray)⟩:S42) )) (Reps.none _ _)))));intro v16 w23 ho24 hb hg_ hnew_;clear hg_ hnew_;(first|rw [← Ny15.out] at ho24|(simp only [Int.reduceToNat] at ho24;rw [← Ny15.out] at ho24));have n0_:=Aside0.mk (Kd.R_elder' (by (with_reducible repeat (first|apply Kd.R_alloc|apply Kd.R_drewN|apply Kd.R_drew));exact HO3.out) (Kd.R_base ho24) hb);have n1_:=Aside0.mk (Kd.R_elder' (by (with_reducible repeat (first|apply Kd.R_alloc|apply Kd.R_drewN|apply Kd.R_drew));exact HO9.out) (Kd.R_base ho24) hb);have n2_:=Aside0.mk (Kd.R_elder' (by (with_reducible repeat (first|apply Kd.R_alloc|apply Kd.R_drewN|apply Kd.R_drew));exact HO13.out) (Kd.R_base ho24) hb);have n3_:=Aside0.mk (Kd.R_lower (Kd.R_new' (Kd.R_new' (Kd.R_new' ho24 (Kd.R_lt (by (with_reducible repeat (first|apply Kd.R_alloc|apply Kd.R_drewN|apply Kd.R_drew));exact HO3.out))) (Kd.R_lt (by (with_reducible repeat (first|apply Kd.R_alloc|apply Kd.R_drewN|apply Kd.R_drew));exact HO9.out))) (Kd.R_lt (by (with_reducible repeat (first|apply Kd.R_alloc|apply Kd.R_drewN|apply Kd.R_drew));exact HO13.out))) (below_size (by repeat (first|(with_reducible first|exact HB.out|apply below_alloc|apply pw_below_drewN|apply below_drew1)|exact HB.out))));have n4_:=Aside0.mk (below_step (by repeat (first|(with_reducible first|exact HB.out|apply below_alloc|apply pw_below_drewN|apply below_drew1)|exact HB.out)) hb);clear HO3;clear HO9;clear HO13;clear HB;have HO3:=n0_;have HO9:=n1_;have HO13:=n2_;have HO17:=n3_;have HB:=n4_;clear n0_ n1_ n2_ n3_ n4_;clear hb ho24;obtain ⟨Ao25,co25,eo25⟩:=Kd.R_slice HO13.out;subst eo25;obtain ⟨Ao26,co26,eo26⟩:=Kd.R_slice HO17.out;subst eo26)|(go_at_call 12;(with_reducible refine (narcissusref02_Same.calls k _ _ t10 _ _ y15 true _ ?side1 ?side2 ?side3 ?side4 A10.out).mono ?_);(case side1=>repeat (first|exact (Kd.R_reads' HO13.out).2.2|(with_reducible refine Kd.C_alloc ?_ _)|(with_reducible refine Kd.C_drewN ?_ _)|(with_reducible refine Kd.C_drew ?_)));(case side2=>exact (Kd.R_reads' HO13.out).2.1);(case side3=>repeat (first|exact (Kd.R_reads' HO17.out).2.2|(with_reducible refine Kd.C_alloc ?_ _)|(with_reducible refine Kd.C_drewN ?_ _)|(with_reducible refine Kd.C_drew ?_)));(case side4=>exact (Kd.R_reads' HO17.out).2.1);rintro e w' ⟨rfl,⟨nd,rfl⟩⟩)|((with_reducible refine gate_dst (N:=52) rfl ?_);(try (refine gate_guard (by rfl) ?_;dsimp only));refine Kd.R_lit k42 _ 42 ?hg (N:=52) ?hd (xs:=([(⟨5,0,1,0,(⟨#[]⟩:ByteArray)⟩:S42)]:List (S42))) (inner:=[.int .i64 5,.int .i64 0,.int .i64 1,.int .i64 0,.string (⟨#[]⟩:ByteArray)]) (ok:=fun _=>True) (okp:=fun _=>True) ?hr ?hp (fun _ hk=>hk) trivial (Below.refl _ _) (Nat.le_refl _) (by simp) ?_;(case hd=>rfl);(case hg=>rfl);(case hr=>first|(go_simp;done)|(go_simp;rfl));(case hp=>exact (Reps.c5 (show Kd.M k42 _ _ _ (⟨5,0,1,0,(⟨#[]⟩:ByteArray)⟩:S42) [.int .i64 5,.int .i64 0,.int .i64 1,.int .i64 0,.string (⟨#[]⟩:ByteArray)] from (k42_mkM _ _ _ (⟨5,0,1,0,(⟨#[]⟩:ByteArray)⟩:S42) )) (Reps.none _ _)));intro v20 w27 ho28 hb hg_ hnew_;clear hg_ hnew_;(first|rw [← Ny19.out] at ho28|(simp only [Int.reduceToNat] at ho28;rw [← Ny19.out] at ho28));have n0_:=Aside0.mk (Kd.R_elder' (by (with_reducible repeat (first|apply Kd.R_alloc|apply Kd.R_drewN|apply Kd.R_drew));exact HO3.out) (Kd.R_base ho28) hb);have n1_:=Aside0.mk (Kd.R_elder' (by (with_reducible repeat (first|apply Kd.R_alloc|apply Kd.R_drewN|apply Kd.R_drew));exact HO9.out) (Kd.R_base ho28) hb);have n2_:=Aside0.mk (Kd.R_elder' (by (with_reducible repeat (first|apply Kd.R_alloc|apply Kd.R_drewN|apply Kd.R_drew));exact HO13.out) (Kd.R_base ho28) hb);have n3_:=Aside0.mk (Kd.R_elder' (by (with_reducible repeat (first|apply Kd.R_alloc|apply Kd.R_drewN|apply Kd.R_drew));exact HO17.out) (Kd.R_base ho28) hb);have n4_:=Aside0.mk (Kd.R_lower (Kd.R_new' (Kd.R_new' (Kd.R_new' (Kd.R_new' ho28 (Kd.R_lt (by (with_reducible repeat (first|apply Kd.R_alloc|apply Kd.R_drewN|apply Kd.R_drew));exact HO3.out))) (Kd.R_lt (by (with_reducible repeat (first|apply Kd.R_alloc|apply Kd.R_drewN|apply Kd.R_drew));exact HO9.out))) (Kd.R_lt (by (with_reducible repeat (first|apply Kd.R_alloc|apply Kd.R_drewN|apply Kd.R_drew));exact HO13.out))) (Kd.R_lt (by (with_reducible repeat (first|apply Kd.R_alloc|apply Kd.R_drewN|apply Kd.R_drew));exact HO17.out))) (below_size (by repeat (first|(with_reducible first|exact HB.out|apply below_alloc|apply pw_below_drewN|apply below_drew1)|exact HB.out))));have n5_:=Aside0.mk (below_step (by repeat (first|(with_reducible first|exact HB.out|apply below_alloc|apply pw_below_drewN|apply below_drew1)|exact HB.out)) hb);clear HO3;clear HO9;clear HO13;clear HO17;clear HB;have HO3:=n0_;have HO9:=n1_;have HO13:=n2_;have HO17:=n3_;have HO21:=n4_;have HB:=n5_;clear n0_ n1_ n2_ n3_ n4_ n5_;clear hb ho28;obtain ⟨Ao29,co29,eo29⟩:=Kd.R_slice HO21.out;subst eo29)|(go_at_call 23;(with_reducible refine (code_Valid.calls k _ _ y19 true _ ?side1 ?side2 A12.out).mono ?_);(case side1=>repeat (first|exact (Kd.R_reads' HO21.out).2.2|(with_reducible refine Kd.C_alloc ?_ _)|(with_reducible refine Kd.C_drewN ?_ _)|(with_reducible refine Kd.C_drew ?_)));(case side2=>exact (Kd.R_reads' HO21.out).2.1);rintro e w30 ⟨rfl,hb⟩;have n0_:=Aside0.mk (Kd.R_below (by (with_reducible repeat (first|apply Kd.R_alloc|apply Kd.R_drewN|apply Kd.R_drew));exact HO3.out) hb);have n1_:=Aside0.mk (Kd.R_below (by (with_reducible repeat (first|apply Kd.R_alloc|apply Kd.R_drewN|apply Kd.R_drew));exact HO9.out) hb);have n2_:=Aside0.mk (Kd.R_below (by (with_reducible repeat (first|apply Kd.R_alloc|apply Kd.R_drewN|apply Kd.R_drew));exact HO13.out) hb);have n3_:=Aside0.mk (Kd.R_below (by (with_reducible repeat (first|apply Kd.R_alloc|apply Kd.R_drewN|apply Kd.R_drew));exact HO17.out) hb);have n4_:=Aside0.mk (Kd.R_below (by (with_reducible repeat (first|apply Kd.R_alloc|apply Kd.R_drewN|apply Kd.R_drew));exact HO21.out) hb);have n5_:=Aside0.mk (below_step (by repeat (first|(with_reducible first|exact HB.out|apply below_alloc|apply pw_below_drewN|apply below_drew1)|exact HB.out)) hb);clear HO3;clear HO9;clear HO13;clear HO17;clear HO21;clear HB;have HO3:=n0_;have HO9:=n1_;have HO13:=n2_;have HO17:=n3_;have HO21:=n4_;have HB:=n5_;clear n0_ n1_ n2_ n3_ n4_ n5_;(try clear hb);(try clear hb2);(try clear hk);(try clear hi))|((with_reducible refine gate_dst (N:=57) rfl ?_);(try (refine gate_guard (by rfl) ?_;dsimp only));refine Kd.R_lit k42 _ 42 ?hg (N:=57) ?hd (xs:=([(⟨5,0,2,0,(⟨#[]⟩:ByteArray)⟩:S42)]:List (S42))) (inner:=[.int .i64 5,.int .i64 0,.int .i64 2,.int .i64 0,.string (⟨#[]⟩:ByteArray)]) (ok:=fun _=>True) (okp:=fun _=>True) ?hr ?hp (fun _ hk=>hk) trivial (Below.refl _ _) (Nat.le_refl _) (by simp) ?_;(case hd=>rfl);(case hg=>rfl);(case hr=>first|(go_simp;done)|(go_simp;rfl));(case hp=>exact (Reps.c5 (show Kd.M k42 _ _ _ (⟨5,0,2,0,(⟨#[]⟩:ByteArray)⟩:S42) [.int .i64 5,.int .i64 0,.int .i64 2,.int .i64 0,.string (⟨#[]⟩:ByteArray)] from (k42_mkM _ _ _ (⟨5,0,2,0,(⟨#[]⟩:ByteArray)⟩:S42) )) (Reps.none _ _)));intro v24 w31 ho32 hb hg_ hnew_;clear hg_ hnew_;(first|rw [← Ny23.out] at ho32|(simp only [Int.reduceToNat] at ho32;rw [← Ny23.out] at ho32));have n0_:=Aside0.mk (Kd.R_elder' (by (with_reducible repeat (first|apply Kd.R_alloc|apply Kd.R_drewN|apply Kd.R_drew));exact HO3.out) (Kd.R_base ho32) hb);have n1_:=Aside0.mk (Kd.R_elder' (by (with_reducible repeat (first|apply Kd.R_alloc|apply Kd.R_drewN|apply Kd.R_drew));exact HO9.out) (Kd.R_base ho32) hb);have n2_:=Aside0.mk (Kd.R_elder' (by (with_reducible repeat (first|apply Kd.R_alloc|apply Kd.R_drewN|apply Kd.R_drew));exact HO13.out) (Kd.R_base ho32) hb);have n3_:=Aside0.mk (Kd.R_elder' (by (with_reducible repeat (first|apply Kd.R_alloc|apply Kd.R_drewN|apply Kd.R_drew));exact HO17.out) (Kd.R_base ho32) hb);have n4_:=Aside0.mk (Kd.R_elder' (by (with_reducible repeat (first|apply Kd.R_alloc|apply Kd.R_drewN|apply Kd.R_drew));exact HO21.out) (Kd.R_base ho32) hb);have n5_:=Aside0.mk (Kd.R_lower (Kd.R_new' (Kd.R_new' (Kd.R_new' (Kd.R_new' (Kd.R_new' ho32 (Kd.R_lt (by (with_reducible repeat (first|apply Kd.R_alloc|apply Kd.R_drewN|apply Kd.R_drew));exact HO3.out))) (Kd.R_lt (by (with_reducible repeat (first|apply Kd.R_alloc|apply Kd.R_drewN|apply Kd.R_drew));exact HO9.out))) (Kd.R_lt (by (with_reducible repeat (first|apply Kd.R_alloc|apply Kd.R_drewN|apply Kd.R_drew));exact HO13.out))) (Kd.R_lt (by (with_reducible repeat (first|apply Kd.R_alloc|apply Kd.R_drewN|apply Kd.R_drew));exact HO17.out))) (Kd.R_lt (by (with_reducible repeat (first|apply Kd.R_alloc|apply Kd.R_drewN|apply Kd.R_drew));exact HO21.out))) (below_size (by repeat (first|(with_reducible first|exact HB.out|apply below_alloc|apply pw_below_drewN|apply below_drew1)|exact HB.out))));have n6_:=Aside0.mk (below_step (by repeat (first|(with_reducible first|exact HB.out|apply below_alloc|apply pw_below_drewN|apply below_drew1)|exact HB.out)) hb);clear HO3;clear HO9;clear HO13;clear HO17;clear HO21;clear HB;have HO3:=n0_;have HO9:=n1_;have HO13:=n2_;have HO17:=n3_;have HO21:=n4_;have HO25:=n5_;have HB:=n6_;clear n0_ n1_ n2_ n3_ n4_ n5_ n6_;clear hb ho32;obtain ⟨Ao33,co33,eo33⟩:=Kd.R_slice HO25.out;subst eo33)|(go_at_call 23;(with_reducible refine (code_Valid.calls k _ _ y23 true _ ?side1 ?side2 A14.out).mono ?_);(case side1=>repeat (first|exact (Kd.R_reads' HO25.out).2.2|(with_reducible refine Kd.C_alloc ?_ _)|(with_reducible refine Kd.C_drewN ?_ _)|(with_reducible refine Kd.C_drew ?_)));(case side2=>exact (Kd.R_reads' HO25.out).2.1);rintro e w34 ⟨rfl,hb⟩;have n0_:=Aside0.mk (Kd.R_below (by (with_reducible repeat (first|apply Kd.R_alloc|apply Kd.R_drewN|apply Kd.R_drew));exact HO3.out) hb);have n1_:=Aside0.mk (Kd.R_below (by (with_reducible repeat (first|apply Kd.R_alloc|apply Kd.R_drewN|apply Kd.R_drew));exact HO9.out) hb);have n2_:=Aside0.mk (Kd.R_below (by (with_reducible repeat (first|apply Kd.R_alloc|apply Kd.R_drewN|apply Kd.R_drew));exact HO13.out) hb);have n3_:=Aside0.mk (Kd.R_below (by (with_reducible repeat (first|apply Kd.R_alloc|apply Kd.R_drewN|apply Kd.R_drew));exact HO17.out) hb);have n4_:=Aside0.mk (Kd.R_below (by (with_reducible repeat (first|apply Kd.R_alloc|apply Kd.R_drewN|apply Kd.R_drew));exact HO21.out) hb);have n5_:=Aside0.mk (Kd.R_below (by (with_reducible repeat (first|apply Kd.R_alloc|apply Kd.R_drewN|apply Kd.R_drew));exact HO25.out) hb);have n6_:=Aside0.mk (below_step (by repeat (first|(with_reducible first|exact HB.out|apply below_alloc|apply pw_below_drewN|apply below_drew1)|exact HB.out)) hb);clear HO3;clear HO9;clear HO13;clear HO17;clear HO21;clear HO25;clear HB;have HO3:=n0_;have HO9:=n1_;have HO13:=n2_;have HO17:=n3_;have HO21:=n4_;have HO25:=n5_;have HB:=n6_;clear n0_ n1_ n2_ n3_ n4_ n5_ n6_;(try clear hb);(try clear hb2);(try clear hk);(try clear hi)))
         go_ret
         exact ⟨by first|rfl|(simp [errW_none,errW_some]<;>rfl)|(simp [*,errW_none,errW_some]<;>rfl),by repeat (first|(with_reducible first|exact HB.out|apply below_alloc|apply pw_below_drewN|apply below_drew1)|exact HB.out)⟩
        ·replace c15:=Bool.eq_false_iff.mpr c15
         subst c15;have H1:((code_Valid.f k (([(⟨1,0,32,0,(⟨#[]⟩:ByteArray)⟩:S42)]:List (S42)))).bind fun t30=>(some (!t30)))=some r:=by rw [if_neg (show ¬ (false=true) by decide)] at H;exact H
         clear H;have H:=H1
         clear H1;obtain ⟨y27,hy27⟩ : ∃ y_:List (S42),y_=(([(⟨1,0,32,0,(⟨#[]⟩:ByteArray)⟩:S42)]:List (S42))):=⟨_,rfl⟩
         replace H:((code_Valid.f k y27).bind fun t30=>(some (!t30)))=some r:=by first|(rw [hy27];with_reducible exact H)|(have H2_:=(Option.bind_some _ _).symm.trans H;rw [hy27];with_reducible exact H2_)|(have H2_:=(Option.bind_some _ _).symm.trans H;with_reducible exact H2_)|with_reducible exact H|(rw [hy27];exact H)|exact H
         have Ny27:=Aside0.mk hy27
         clear hy27;replace H:=Option.bind_eq_some_iff.mp H
         obtain ⟨t30,A350,H⟩:=H
         replace H:(some (!t30))=some r:=H
         have A35:=Aside0.mk A350
         clear A350;obtain rfl:=Option.some.inj H
         go_enter Tryz.func10,Tryz.ntmps10
         go_wp2_with (first|((with_reducible refine gate_dst (N:=9) rfl ?_);(try (refine gate_guard (by rfl) ?_;dsimp only));refine Kd.R_lit k42 _ 42 ?hg (N:=9) ?hd (xs:=([(⟨4,0,0,0,(⟨#[]⟩:ByteArray)⟩:S42)]:List (S42))) (inner:=[.int .i64 4,.int .i64 0,.int .i64 0,.int .i64 0,.string (⟨#[]⟩:ByteArray)]) (ok:=fun _=>True) (okp:=fun _=>True) ?hr ?hp (fun _ hk=>hk) trivial (Below.refl _ _) (Nat.le_refl _) (by simp) ?_;(case hd=>rfl);(case hg=>rfl);(case hr=>first|(go_simp;done)|(go_simp;rfl));(case hp=>exact (Reps.c5 (show Kd.M k42 _ _ _ (⟨4,0,0,0,(⟨#[]⟩:ByteArray)⟩:S42) [.int .i64 4,.int .i64 0,.int .i64 0,.int .i64 0,.string (⟨#[]⟩:ByteArray)] from (k42_mkM _ _ _ (⟨4,0,0,0,(⟨#[]⟩:ByteArray)⟩:S42) )) (Reps.none _ _)));intro v2 w36 ho37 hb hg_ hnew_;clear hg_ hnew_;(first|rw [← Ny1.out] at ho37|(simp only [Int.reduceToNat] at ho37;rw [← Ny1.out] at ho37));have n0_:=Aside0.mk (Kd.R_lower ho37 (below_size (by repeat (first|(with_reducible first|exact HB.out|apply below_alloc|apply pw_below_drewN|apply below_drew1)|exact HB.out))));have n1_:=Aside0.mk (below_step (by repeat (first|(with_reducible first|exact HB.out|apply below_alloc|apply pw_below_drewN|apply below_drew1)|exact HB.out)) hb);clear HB;have HO3:=n0_;have HB:=n1_;clear n0_ n1_;clear hb ho37;obtain ⟨Ao38,co38,eo38⟩:=Kd.R_slice HO3.out;subst eo38)|((with_reducible refine gate_callee (f:=17) rfl ?_);refine goesL_ (some 12) rfl rfl Tryz.func17 (by kernel_rfl) rfl #[.slice Ao38 y1.length co38] rfl (by (try simp only [List.map_toArray,List.map_cons,List.map_nil]);first|done|rfl|(simp only [List.length_drop,List.length_take];rfl)) ?_;(with_reducible refine (code_Code.calls k _ _ y1 t4 t5 _ ?side1 ?side2 A1.out).mono ?_);(case side1=>repeat (first|exact (Kd.R_reads' HO3.out).2.2|(with_reducible refine Kd.C_alloc ?_ _)|(with_reducible refine Kd.C_drewN ?_ _)|(with_reducible refine Kd.C_drew ?_)));(case side2=>exact (Kd.R_reads' HO3.out).2.1);rintro e w39 ⟨rfl,hb⟩;refine ⟨_,rfl,?_⟩;have n0_:=Aside0.mk (Kd.R_below (by (with_reducible repeat (first|apply Kd.R_alloc|apply Kd.R_drewN|apply Kd.R_drew));exact HO3.out) hb);have n1_:=Aside0.mk (below_step (by repeat (first|(with_reducible first|exact HB.out|apply below_alloc|apply pw_below_drewN|apply below_drew1)|exact HB.out)) hb);clear HO3;clear HB;have HO3:=n0_;have HB:=n1_;clear n0_ n1_;(try clear hb);(try clear hb2);(try clear hk);(try clear hi))|((with_reducible refine gate_callee (f:=8) rfl ?_);refine goesL_ (some 16) rfl rfl Tryz.func8 (by kernel_rfl) rfl #[.string (⟨#[49,49,49,48,49,48,49,48,49,48,48,49,48,48,48]⟩:ByteArray)] rfl (by (try simp only [List.map_toArray,List.map_cons,List.map_nil]);first|done|rfl) ?_;(with_reducible refine (code_Decode.calls k (⟨#[49,49,49,48,49,48,49,48,49,48,48,49,48,48,48]⟩:ByteArray) t6 t7 _ A2.out).mono ?_);rintro e w40 ⟨v8,rfl,ho0,hb⟩;refine ⟨_,rfl,?_⟩;have n0_:=Aside0.mk (Kd.R_elder' (by (with_reducible repeat (first|apply Kd.R_alloc|apply Kd.R_drewN|apply Kd.R_drew));exact HO3.out) (Kd.R_base ho0) hb);have n1_:=Aside0.mk (Kd.R_lower (Kd.R_new' ho0 (Kd.R_lt (by (with_reducible repeat (first|apply Kd.R_alloc|apply Kd.R_drewN|apply Kd.R_drew));exact HO3.out))) (below_size (by repeat (first|(with_reducible first|exact HB.out|apply below_alloc|apply pw_below_drewN|apply below_drew1)|exact HB.out))));have n2_:=Aside0.mk (below_step (by repeat (first|(with_reducible first|exact HB.out|apply below_alloc|apply pw_below_drewN|apply below_drew1)|exact HB.out)) hb);clear HO3;clear HB;have HO3:=n0_;have HO9:=n1_;have HB:=n2_;clear n0_ n1_ n2_;(try clear hb);(try clear hb2);(try clear hk);(try clear hi);(try clear ho0))|((with_reducible refine gate_callee (f:=13) rfl ?_);refine goesL_ (some 20) rfl rfl Tryz.func13 (by kernel_rfl) rfl #[.string (⟨#[115,101,116,32,49,32,49,48,48,59,32,99,111,110,115,32,48,32,49,32,48,59,32,106,117,109,112,32,48,32,45,50]⟩:ByteArray)] rfl (by (try simp only [List.map_toArray,List.map_cons,List.map_nil]);first|done|rfl) ?_;(with_reducible refine (code_Parse.calls k (⟨#[115,101,116,32,49,32,49,48,48,59,32,99,111,110,115,32,48,32,49,32,48,59,32,106,117,109,112,32,48,32,45,50]⟩:ByteArray) t10 t11 _ ?side1 A3.out).mono ?_);(case side1=>first|(refine LaidW.below HLD.out ?_;with_reducible exact HB.out)|(refine LaidW.below HLD.out ?_;with_reducible apply pw_below_drewN;with_reducible exact HB.out)|(refine LaidW.below HLD.out ?_;with_reducible apply below_alloc;with_reducible exact HB.out)|(refine LaidW.below HLD.out ?_;repeat (first|(with_reducible first|exact HB.out|apply below_alloc|apply pw_below_drewN|apply below_drew1)|exact HB.out);done)|exact HLD.out|(repeat (first|exact HLD.out|(with_reducible refine LaidW.drewN ?_ _)|(with_reducible refine LaidW.drew ?_)|(with_reducible refine LaidW.alloc ?_ _))));rintro e w41 ⟨v12,rfl,ho0,hb⟩;refine ⟨_,rfl,?_⟩;have n0_:=Aside0.mk (Kd.R_elder' (by (with_reducible repeat (first|apply Kd.R_alloc|apply Kd.R_drewN|apply Kd.R_drew));exact HO3.out) (Kd.R_base ho0) hb);have n1_:=Aside0.mk (Kd.R_elder' (by (with_reducible repeat (first|apply Kd.R_alloc|apply Kd.R_drewN|apply Kd.R_drew));exact HO9.out) (Kd.R_base ho0) hb);have n2_:=Aside0.mk (Kd.R_lower (Kd.R_new' (Kd.R_new' ho0 (Kd.R_lt (by (with_reducible repeat (first|apply Kd.R_alloc|apply Kd.R_drewN|apply Kd.R_drew));exact HO3.out))) (Kd.R_lt (by (with_reducible repeat (first|apply Kd.R_alloc|apply Kd.R_drewN|apply Kd.R_drew));exact HO9.out))) (below_size (by repeat (first|(with_reducible first|exact HB.out|apply below_alloc|apply pw_below_drewN|apply below_drew1)|exact HB.out))));have n3_:=Aside0.mk (below_step (by repeat (first|(with_reducible first|exact HB.out|apply below_alloc|apply pw_below_drewN|apply below_drew1)|exact HB.out)) hb);clear HO3;clear HO9;clear HB;have HO3:=n0_;have HO9:=n1_;have HO13:=n2_;have HB:=n3_;clear n0_ n1_ n2_ n3_;(try clear hb);(try clear hb2);(try clear hk);(try clear hi);(try clear ho0);obtain ⟨Ao42,co42,eo42⟩:=Kd.R_slice HO9.out;subst eo42)|(go_at_call 12;(with_reducible refine (narcissusref02_Same.calls k _ _ t6 _ _ y1 true _ ?side1 ?side2 ?side3 ?side4 A7.out).mono ?_);(case side1=>repeat (first|exact (Kd.R_reads' HO9.out).2.2|(with_reducible refine Kd.C_alloc ?_ _)|(with_reducible refine Kd.C_drewN ?_ _)|(with_reducible refine Kd.C_drew ?_)));(case side2=>exact (Kd.R_reads' HO9.out).2.1);(case side3=>repeat (first|exact (Kd.R_reads' HO3.out).2.2|(with_reducible refine Kd.C_alloc ?_ _)|(with_reducible refine Kd.C_drewN ?_ _)|(with_reducible refine Kd.C_drew ?_)));(case side4=>exact (Kd.R_reads' HO3.out).2.1);rintro e w' ⟨rfl,⟨nd,rfl⟩⟩)|((with_reducible refine gate_dst (N:=47) rfl ?_);(try (refine gate_guard (by rfl) ?_;dsimp only));refine Kd.R_lit k42 _ 42 ?hg (N:=47) ?hd (xs:=([(⟨0,1,0,0,(⟨#[49,48,48]⟩:ByteArray)⟩:S42),(⟨2,0,1,0,(⟨#[]⟩:ByteArray)⟩:S42),(⟨5,0,(-2),0,(⟨#[]⟩:ByteArray)⟩:S42)]:List (S42))) (inner:=[.int .i64 0,.int .i64 1,.int .i64 0,.int .i64 0,.string (⟨#[49,48,48]⟩:ByteArray),.int .i64 2,.int .i64 0,.int .i64 1,.int .i64 0,.string (⟨#[]⟩:ByteArray),.int .i64 5,.int .i64 0,.int .i64 (-2),.int .i64 0,.string (⟨#[]⟩:ByteArray)]) (ok:=fun _=>True) (okp:=fun _=>True) ?hr ?hp (fun _ hk=>hk) trivial (Below.refl _ _) (Nat.le_refl _) (by simp) ?_;(case hd=>rfl);(case hg=>rfl);(case hr=>first|(go_simp;done)|(go_simp;rfl));(case hp=>exact (Reps.c5 (show Kd.M k42 _ _ _ (⟨0,1,0,0,(⟨#[49,48,48]⟩:ByteArray)⟩:S42) [.int .i64 0,.int .i64 1,.int .i64 0,.int .i64 0,.string (⟨#[49,48,48]⟩:ByteArray)] from (k42_mkM _ _ _ (⟨0,1,0,0,(⟨#[49,48,48]⟩:ByteArray)⟩:S42) )) (Reps.c5 (show Kd.M k42 _ _ _ (⟨2,0,1,0,(⟨#[]⟩:ByteArray)⟩:S42) [.int .i64 2,.int .i64 0,.int .i64 1,.int .i64 0,.string (⟨#[]⟩:ByteArray)] from (k42_mkM _ _ _ (⟨2,0,1,0,(⟨#[]⟩:ByteArray)⟩:S42) )) (Reps.c5 (show Kd.M k42 _ _ _ (⟨5,0,(-2),0,(⟨#[]⟩:ByteArray)⟩:S42) [.int .i64 5,.int .i64 0,.int .i64 (-2),.int .i64 0,.string (⟨#[]⟩:ByteArray)] from (k42_mkM _ _ _ (⟨5,0,(-2),0,(⟨#[]⟩:ByteArray)⟩:S42) )) (Reps.none _ _)))));intro v16 w43 ho44 hb hg_ hnew_;clear hg_ hnew_;(first|rw [← Ny15.out] at ho44|(simp only [Int.reduceToNat] at ho44;rw [← Ny15.out] at ho44));have n0_:=Aside0.mk (Kd.R_elder' (by (with_reducible repeat (first|apply Kd.R_alloc|apply Kd.R_drewN|apply Kd.R_drew));exact HO3.out) (Kd.R_base ho44) hb);have n1_:=Aside0.mk (Kd.R_elder' (by (with_reducible repeat (first|apply Kd.R_alloc|apply Kd.R_drewN|apply Kd.R_drew));exact HO9.out) (Kd.R_base ho44) hb);have n2_:=Aside0.mk (Kd.R_elder' (by (with_reducible repeat (first|apply Kd.R_alloc|apply Kd.R_drewN|apply Kd.R_drew));exact HO13.out) (Kd.R_base ho44) hb);have n3_:=Aside0.mk (Kd.R_lower (Kd.R_new' (Kd.R_new' (Kd.R_new' ho44 (Kd.R_lt (by (with_reducible repeat (first|apply Kd.R_alloc|apply Kd.R_drewN|apply Kd.R_drew));exact HO3.out))) (Kd.R_lt (by (with_reducible repeat (first|apply Kd.R_alloc|apply Kd.R_drewN|apply Kd.R_drew));exact HO9.out))) (Kd.R_lt (by (with_reducible repeat (first|apply Kd.R_alloc|apply Kd.R_drewN|apply Kd.R_drew));exact HO13.out))) (below_size (by repeat (first|(with_reducible first|exact HB.out|apply below_alloc|apply pw_below_drewN|apply below_drew1)|exact HB.out))));have n4_:=Aside0.mk (below_step (by repeat (first|(with_reducible first|exact HB.out|apply below_alloc|apply pw_below_drewN|apply below_drew1)|exact HB.out)) hb);clear HO3;clear HO9;clear HO13;clear HB;have HO3:=n0_;have HO9:=n1_;have HO13:=n2_;have HO17:=n3_;have HB:=n4_;clear n0_ n1_ n2_ n3_ n4_;clear hb ho44;obtain ⟨Ao45,co45,eo45⟩:=Kd.R_slice HO13.out;subst eo45;obtain ⟨Ao46,co46,eo46⟩:=Kd.R_slice HO17.out;subst eo46)|(go_at_call 12;(with_reducible refine (narcissusref02_Same.calls k _ _ t10 _ _ y15 true _ ?side1 ?side2 ?side3 ?side4 A10.out).mono ?_);(case side1=>repeat (first|exact (Kd.R_reads' HO13.out).2.2|(with_reducible refine Kd.C_alloc ?_ _)|(with_reducible refine Kd.C_drewN ?_ _)|(with_reducible refine Kd.C_drew ?_)));(case side2=>exact (Kd.R_reads' HO13.out).2.1);(case side3=>repeat (first|exact (Kd.R_reads' HO17.out).2.2|(with_reducible refine Kd.C_alloc ?_ _)|(with_reducible refine Kd.C_drewN ?_ _)|(with_reducible refine Kd.C_drew ?_)));(case side4=>exact (Kd.R_reads' HO17.out).2.1);rintro e w' ⟨rfl,⟨nd,rfl⟩⟩)|((with_reducible refine gate_dst (N:=52) rfl ?_);(try (refine gate_guard (by rfl) ?_;dsimp only));refine Kd.R_lit k42 _ 42 ?hg (N:=52) ?hd (xs:=([(⟨5,0,1,0,(⟨#[]⟩:ByteArray)⟩:S42)]:List (S42))) (inner:=[.int .i64 5,.int .i64 0,.int .i64 1,.int .i64 0,.string (⟨#[]⟩:ByteArray)]) (ok:=fun _=>True) (okp:=fun _=>True) ?hr ?hp (fun _ hk=>hk) trivial (Below.refl _ _) (Nat.le_refl _) (by simp) ?_;(case hd=>rfl);(case hg=>rfl);(case hr=>first|(go_simp;done)|(go_simp;rfl));(case hp=>exact (Reps.c5 (show Kd.M k42 _ _ _ (⟨5,0,1,0,(⟨#[]⟩:ByteArray)⟩:S42) [.int .i64 5,.int .i64 0,.int .i64 1,.int .i64 0,.string (⟨#[]⟩:ByteArray)] from (k42_mkM _ _ _ (⟨5,0,1,0,(⟨#[]⟩:ByteArray)⟩:S42) )) (Reps.none _ _)));intro v20 w47 ho48 hb hg_ hnew_;clear hg_ hnew_;(first|rw [← Ny19.out] at ho48|(simp only [Int.reduceToNat] at ho48;rw [← Ny19.out] at ho48));have n0_:=Aside0.mk (Kd.R_elder' (by (with_reducible repeat (first|apply Kd.R_alloc|apply Kd.R_drewN|apply Kd.R_drew));exact HO3.out) (Kd.R_base ho48) hb);have n1_:=Aside0.mk (Kd.R_elder' (by (with_reducible repeat (first|apply Kd.R_alloc|apply Kd.R_drewN|apply Kd.R_drew));exact HO9.out) (Kd.R_base ho48) hb);have n2_:=Aside0.mk (Kd.R_elder' (by (with_reducible repeat (first|apply Kd.R_alloc|apply Kd.R_drewN|apply Kd.R_drew));exact HO13.out) (Kd.R_base ho48) hb);have n3_:=Aside0.mk (Kd.R_elder' (by (with_reducible repeat (first|apply Kd.R_alloc|apply Kd.R_drewN|apply Kd.R_drew));exact HO17.out) (Kd.R_base ho48) hb);have n4_:=Aside0.mk (Kd.R_lower (Kd.R_new' (Kd.R_new' (Kd.R_new' (Kd.R_new' ho48 (Kd.R_lt (by (with_reducible repeat (first|apply Kd.R_alloc|apply Kd.R_drewN|apply Kd.R_drew));exact HO3.out))) (Kd.R_lt (by (with_reducible repeat (first|apply Kd.R_alloc|apply Kd.R_drewN|apply Kd.R_drew));exact HO9.out))) (Kd.R_lt (by (with_reducible repeat (first|apply Kd.R_alloc|apply Kd.R_drewN|apply Kd.R_drew));exact HO13.out))) (Kd.R_lt (by (with_reducible repeat (first|apply Kd.R_alloc|apply Kd.R_drewN|apply Kd.R_drew));exact HO17.out))) (below_size (by repeat (first|(with_reducible first|exact HB.out|apply below_alloc|apply pw_below_drewN|apply below_drew1)|exact HB.out))));have n5_:=Aside0.mk (below_step (by repeat (first|(with_reducible first|exact HB.out|apply below_alloc|apply pw_below_drewN|apply below_drew1)|exact HB.out)) hb);clear HO3;clear HO9;clear HO13;clear HO17;clear HB;have HO3:=n0_;have HO9:=n1_;have HO13:=n2_;have HO17:=n3_;have HO21:=n4_;have HB:=n5_;clear n0_ n1_ n2_ n3_ n4_ n5_;clear hb ho48;obtain ⟨Ao49,co49,eo49⟩:=Kd.R_slice HO21.out;subst eo49)|(go_at_call 23;(with_reducible refine (code_Valid.calls k _ _ y19 true _ ?side1 ?side2 A12.out).mono ?_);(case side1=>repeat (first|exact (Kd.R_reads' HO21.out).2.2|(with_reducible refine Kd.C_alloc ?_ _)|(with_reducible refine Kd.C_drewN ?_ _)|(with_reducible refine Kd.C_drew ?_)));(case side2=>exact (Kd.R_reads' HO21.out).2.1);rintro e w50 ⟨rfl,hb⟩;have n0_:=Aside0.mk (Kd.R_below (by (with_reducible repeat (first|apply Kd.R_alloc|apply Kd.R_drewN|apply Kd.R_drew));exact HO3.out) hb);have n1_:=Aside0.mk (Kd.R_below (by (with_reducible repeat (first|apply Kd.R_alloc|apply Kd.R_drewN|apply Kd.R_drew));exact HO9.out) hb);have n2_:=Aside0.mk (Kd.R_below (by (with_reducible repeat (first|apply Kd.R_alloc|apply Kd.R_drewN|apply Kd.R_drew));exact HO13.out) hb);have n3_:=Aside0.mk (Kd.R_below (by (with_reducible repeat (first|apply Kd.R_alloc|apply Kd.R_drewN|apply Kd.R_drew));exact HO17.out) hb);have n4_:=Aside0.mk (Kd.R_below (by (with_reducible repeat (first|apply Kd.R_alloc|apply Kd.R_drewN|apply Kd.R_drew));exact HO21.out) hb);have n5_:=Aside0.mk (below_step (by repeat (first|(with_reducible first|exact HB.out|apply below_alloc|apply pw_below_drewN|apply below_drew1)|exact HB.out)) hb);clear HO3;clear HO9;clear HO13;clear HO17;clear HO21;clear HB;have HO3:=n0_;have HO9:=n1_;have HO13:=n2_;have HO17:=n3_;have HO21:=n4_;have HB:=n5_;clear n0_ n1_ n2_ n3_ n4_ n5_;(try clear hb);(try clear hb2);(try clear hk);(try clear hi))|((with_reducible refine gate_dst (N:=57) rfl ?_);(try (refine gate_guard (by rfl) ?_;dsimp only));refine Kd.R_lit k42 _ 42 ?hg (N:=57) ?hd (xs:=([(⟨5,0,2,0,(⟨#[]⟩:ByteArray)⟩:S42)]:List (S42))) (inner:=[.int .i64 5,.int .i64 0,.int .i64 2,.int .i64 0,.string (⟨#[]⟩:ByteArray)]) (ok:=fun _=>True) (okp:=fun _=>True) ?hr ?hp (fun _ hk=>hk) trivial (Below.refl _ _) (Nat.le_refl _) (by simp) ?_;(case hd=>rfl);(case hg=>rfl);(case hr=>first|(go_simp;done)|(go_simp;rfl));(case hp=>exact (Reps.c5 (show Kd.M k42 _ _ _ (⟨5,0,2,0,(⟨#[]⟩:ByteArray)⟩:S42) [.int .i64 5,.int .i64 0,.int .i64 2,.int .i64 0,.string (⟨#[]⟩:ByteArray)] from (k42_mkM _ _ _ (⟨5,0,2,0,(⟨#[]⟩:ByteArray)⟩:S42) )) (Reps.none _ _)));intro v24 w51 ho52 hb hg_ hnew_;clear hg_ hnew_;(first|rw [← Ny23.out] at ho52|(simp only [Int.reduceToNat] at ho52;rw [← Ny23.out] at ho52));have n0_:=Aside0.mk (Kd.R_elder' (by (with_reducible repeat (first|apply Kd.R_alloc|apply Kd.R_drewN|apply Kd.R_drew));exact HO3.out) (Kd.R_base ho52) hb);have n1_:=Aside0.mk (Kd.R_elder' (by (with_reducible repeat (first|apply Kd.R_alloc|apply Kd.R_drewN|apply Kd.R_drew));exact HO9.out) (Kd.R_base ho52) hb);have n2_:=Aside0.mk (Kd.R_elder' (by (with_reducible repeat (first|apply Kd.R_alloc|apply Kd.R_drewN|apply Kd.R_drew));exact HO13.out) (Kd.R_base ho52) hb);have n3_:=Aside0.mk (Kd.R_elder' (by (with_reducible repeat (first|apply Kd.R_alloc|apply Kd.R_drewN|apply Kd.R_drew));exact HO17.out) (Kd.R_base ho52) hb);have n4_:=Aside0.mk (Kd.R_elder' (by (with_reducible repeat (first|apply Kd.R_alloc|apply Kd.R_drewN|apply Kd.R_drew));exact HO21.out) (Kd.R_base ho52) hb);have n5_:=Aside0.mk (Kd.R_lower (Kd.R_new' (Kd.R_new' (Kd.R_new' (Kd.R_new' (Kd.R_new' ho52 (Kd.R_lt (by (with_reducible repeat (first|apply Kd.R_alloc|apply Kd.R_drewN|apply Kd.R_drew));exact HO3.out))) (Kd.R_lt (by (with_reducible repeat (first|apply Kd.R_alloc|apply Kd.R_drewN|apply Kd.R_drew));exact HO9.out))) (Kd.R_lt (by (with_reducible repeat (first|apply Kd.R_alloc|apply Kd.R_drewN|apply Kd.R_drew));exact HO13.out))) (Kd.R_lt (by (with_reducible repeat (first|apply Kd.R_alloc|apply Kd.R_drewN|apply Kd.R_drew));exact HO17.out))) (Kd.R_lt (by (with_reducible repeat (first|apply Kd.R_alloc|apply Kd.R_drewN|apply Kd.R_drew));exact HO21.out))) (below_size (by repeat (first|(with_reducible first|exact HB.out|apply below_alloc|apply pw_below_drewN|apply below_drew1)|exact HB.out))));have n6_:=Aside0.mk (below_step (by repeat (first|(with_reducible first|exact HB.out|apply below_alloc|apply pw_below_drewN|apply below_drew1)|exact HB.out)) hb);clear HO3;clear HO9;clear HO13;clear HO17;clear HO21;clear HB;have HO3:=n0_;have HO9:=n1_;have HO13:=n2_;have HO17:=n3_;have HO21:=n4_;have HO25:=n5_;have HB:=n6_;clear n0_ n1_ n2_ n3_ n4_ n5_ n6_;clear hb ho52;obtain ⟨Ao53,co53,eo53⟩:=Kd.R_slice HO25.out;subst eo53)|(go_at_call 23;(with_reducible refine (code_Valid.calls k _ _ y23 false _ ?side1 ?side2 A14.out).mono ?_);(case side1=>repeat (first|exact (Kd.R_reads' HO25.out).2.2|(with_reducible refine Kd.C_alloc ?_ _)|(with_reducible refine Kd.C_drewN ?_ _)|(with_reducible refine Kd.C_drew ?_)));(case side2=>exact (Kd.R_reads' HO25.out).2.1);rintro e w54 ⟨rfl,hb⟩;have n0_:=Aside0.mk (Kd.R_below (by (with_reducible repeat (first|apply Kd.R_alloc|apply Kd.R_drewN|apply Kd.R_drew));exact HO3.out) hb);have n1_:=Aside0.mk (Kd.R_below (by (with_reducible repeat (first|apply Kd.R_alloc|apply Kd.R_drewN|apply Kd.R_drew));exact HO9.out) hb);have n2_:=Aside0.mk (Kd.R_below (by (with_reducible repeat (first|apply Kd.R_alloc|apply Kd.R_drewN|apply Kd.R_drew));exact HO13.out) hb);have n3_:=Aside0.mk (Kd.R_below (by (with_reducible repeat (first|apply Kd.R_alloc|apply Kd.R_drewN|apply Kd.R_drew));exact HO17.out) hb);have n4_:=Aside0.mk (Kd.R_below (by (with_reducible repeat (first|apply Kd.R_alloc|apply Kd.R_drewN|apply Kd.R_drew));exact HO21.out) hb);have n5_:=Aside0.mk (Kd.R_below (by (with_reducible repeat (first|apply Kd.R_alloc|apply Kd.R_drewN|apply Kd.R_drew));exact HO25.out) hb);have n6_:=Aside0.mk (below_step (by repeat (first|(with_reducible first|exact HB.out|apply below_alloc|apply pw_below_drewN|apply below_drew1)|exact HB.out)) hb);clear HO3;clear HO9;clear HO13;clear HO17;clear HO21;clear HO25;clear HB;have HO3:=n0_;have HO9:=n1_;have HO13:=n2_;have HO17:=n3_;have HO21:=n4_;have HO25:=n5_;have HB:=n6_;clear n0_ n1_ n2_ n3_ n4_ n5_ n6_;(try clear hb);(try clear hb2);(try clear hk);(try clear hi))|((with_reducible refine gate_dst (N:=63) rfl ?_);(try (refine gate_guard (by rfl) ?_;dsimp only));refine Kd.R_lit k42 _ 42 ?hg (N:=63) ?hd (xs:=([(⟨1,0,32,0,(⟨#[]⟩:ByteArray)⟩:S42)]:List (S42))) (inner:=[.int .i64 1,.int .i64 0,.int .i64 32,.int .i64 0,.string (⟨#[]⟩:ByteArray)]) (ok:=fun _=>True) (okp:=fun _=>True) ?hr ?hp (fun _ hk=>hk) trivial (Below.refl _ _) (Nat.le_refl _) (by simp) ?_;(case hd=>rfl);(case hg=>rfl);(case hr=>first|(go_simp;done)|(go_simp;rfl));(case hp=>exact (Reps.c5 (show Kd.M k42 _ _ _ (⟨1,0,32,0,(⟨#[]⟩:ByteArray)⟩:S42) [.int .i64 1,.int .i64 0,.int .i64 32,.int .i64 0,.string (⟨#[]⟩:ByteArray)] from (k42_mkM _ _ _ (⟨1,0,32,0,(⟨#[]⟩:ByteArray)⟩:S42) )) (Reps.none _ _)));intro v28 w55 ho56 hb hg_ hnew_;clear hg_ hnew_;(first|rw [← Ny27.out] at ho56|(simp only [Int.reduceToNat] at ho56;rw [← Ny27.out] at ho56));have n0_:=Aside0.mk (Kd.R_elder' (by (with_reducible repeat (first|apply Kd.R_alloc|apply Kd.R_drewN|apply Kd.R_drew));exact HO3.out) (Kd.R_base ho56) hb);have n1_:=Aside0.mk (Kd.R_elder' (by (with_reducible repeat (first|apply Kd.R_alloc|apply Kd.R_drewN|apply Kd.R_drew));exact HO9.out) (Kd.R_base ho56) hb);have n2_:=Aside0.mk (Kd.R_elder' (by (with_reducible repeat (first|apply Kd.R_alloc|apply Kd.R_drewN|apply Kd.R_drew));exact HO13.out) (Kd.R_base ho56) hb);have n3_:=Aside0.mk (Kd.R_elder' (by (with_reducible repeat (first|apply Kd.R_alloc|apply Kd.R_drewN|apply Kd.R_drew));exact HO17.out) (Kd.R_base ho56) hb);have n4_:=Aside0.mk (Kd.R_elder' (by (with_reducible repeat (first|apply Kd.R_alloc|apply Kd.R_drewN|apply Kd.R_drew));exact HO21.out) (Kd.R_base ho56) hb);have n5_:=Aside0.mk (Kd.R_elder' (by (with_reducible repeat (first|apply Kd.R_alloc|apply Kd.R_drewN|apply Kd.R_drew));exact HO25.out) (Kd.R_base ho56) hb);have n6_:=Aside0.mk (Kd.R_lower (Kd.R_new' (Kd.R_new' (Kd.R_new' (Kd.R_new' (Kd.R_new' (Kd.R_new' ho56 (Kd.R_lt (by (with_reducible repeat (first|apply Kd.R_alloc|apply Kd.R_drewN|apply Kd.R_drew));exact HO3.out))) (Kd.R_lt (by (with_reducible repeat (first|apply Kd.R_alloc|apply Kd.R_drewN|apply Kd.R_drew));exact HO9.out))) (Kd.R_lt (by (with_reducible repeat (first|apply Kd.R_alloc|apply Kd.R_drewN|apply Kd.R_drew));exact HO13.out))) (Kd.R_lt (by (with_reducible repeat (first|apply Kd.R_alloc|apply Kd.R_drewN|apply Kd.R_drew));exact HO17.out))) (Kd.R_lt (by (with_reducible repeat (first|apply Kd.R_alloc|apply Kd.R_drewN|apply Kd.R_drew));exact HO21.out))) (Kd.R_lt (by (with_reducible repeat (first|apply Kd.R_alloc|apply Kd.R_drewN|apply Kd.R_drew));exact HO25.out))) (below_size (by repeat (first|(with_reducible first|exact HB.out|apply below_alloc|apply pw_below_drewN|apply below_drew1)|exact HB.out))));have n7_:=Aside0.mk (below_step (by repeat (first|(with_reducible first|exact HB.out|apply below_alloc|apply pw_below_drewN|apply below_drew1)|exact HB.out)) hb);clear HO3;clear HO9;clear HO13;clear HO17;clear HO21;clear HO25;clear HB;have HO3:=n0_;have HO9:=n1_;have HO13:=n2_;have HO17:=n3_;have HO21:=n4_;have HO25:=n5_;have HO29:=n6_;have HB:=n7_;clear n0_ n1_ n2_ n3_ n4_ n5_ n6_ n7_;clear hb ho56;obtain ⟨Ao57,co57,eo57⟩:=Kd.R_slice HO29.out;subst eo57)|(go_at_call 23;(with_reducible refine (code_Valid.calls k _ _ y27 t30 _ ?side1 ?side2 A35.out).mono ?_);(case side1=>repeat (first|exact (Kd.R_reads' HO29.out).2.2|(with_reducible refine Kd.C_alloc ?_ _)|(with_reducible refine Kd.C_drewN ?_ _)|(with_reducible refine Kd.C_drew ?_)));(case side2=>exact (Kd.R_reads' HO29.out).2.1);rintro e w58 ⟨rfl,hb⟩;have n0_:=Aside0.mk (Kd.R_below (by (with_reducible repeat (first|apply Kd.R_alloc|apply Kd.R_drewN|apply Kd.R_drew));exact HO3.out) hb);have n1_:=Aside0.mk (Kd.R_below (by (with_reducible repeat (first|apply Kd.R_alloc|apply Kd.R_drewN|apply Kd.R_drew));exact HO9.out) hb);have n2_:=Aside0.mk (Kd.R_below (by (with_reducible repeat (first|apply Kd.R_alloc|apply Kd.R_drewN|apply Kd.R_drew));exact HO13.out) hb);have n3_:=Aside0.mk (Kd.R_below (by (with_reducible repeat (first|apply Kd.R_alloc|apply Kd.R_drewN|apply Kd.R_drew));exact HO17.out) hb);have n4_:=Aside0.mk (Kd.R_below (by (with_reducible repeat (first|apply Kd.R_alloc|apply Kd.R_drewN|apply Kd.R_drew));exact HO21.out) hb);have n5_:=Aside0.mk (Kd.R_below (by (with_reducible repeat (first|apply Kd.R_alloc|apply Kd.R_drewN|apply Kd.R_drew));exact HO25.out) hb);have n6_:=Aside0.mk (Kd.R_below (by (with_reducible repeat (first|apply Kd.R_alloc|apply Kd.R_drewN|apply Kd.R_drew));exact HO29.out) hb);have n7_:=Aside0.mk (below_step (by repeat (first|(with_reducible first|exact HB.out|apply below_alloc|apply pw_below_drewN|apply below_drew1)|exact HB.out)) hb);clear HO3;clear HO9;clear HO13;clear HO17;clear HO21;clear HO25;clear HO29;clear HB;have HO3:=n0_;have HO9:=n1_;have HO13:=n2_;have HO17:=n3_;have HO21:=n4_;have HO25:=n5_;have HO29:=n6_;have HB:=n7_;clear n0_ n1_ n2_ n3_ n4_ n5_ n6_ n7_;(try clear hb);(try clear hb2);(try clear hk);(try clear hi)))
         go_ret
         exact ⟨by first|rfl|(simp [errW_none,errW_some]<;>rfl)|(simp [*,errW_none,errW_some]<;>rfl),by repeat (first|(with_reducible first|exact HB.out|apply below_alloc|apply pw_below_drewN|apply below_drew1)|exact HB.out)⟩
       ·replace c13:=Bool.eq_false_iff.mpr c13
        subst c13;have H1:(some false)=some r:=by rw [if_neg (show ¬ (false=true) by decide)] at H;exact H
        clear H;have H:=H1
        clear H1;obtain rfl:=Option.some.inj H
        go_enter Tryz.func10,Tryz.ntmps10
        go_wp2_with (first|((with_reducible refine gate_dst (N:=9) rfl ?_);(try (refine gate_guard (by rfl) ?_;dsimp only));refine Kd.R_lit k42 _ 42 ?hg (N:=9) ?hd (xs:=([(⟨4,0,0,0,(⟨#[]⟩:ByteArray)⟩:S42)]:List (S42))) (inner:=[.int .i64 4,.int .i64 0,.int .i64 0,.int .i64 0,.string (⟨#[]⟩:ByteArray)]) (ok:=fun _=>True) (okp:=fun _=>True) ?hr ?hp (fun _ hk=>hk) trivial (Below.refl _ _) (Nat.le_refl _) (by simp) ?_;(case hd=>rfl);(case hg=>rfl);(case hr=>first|(go_simp;done)|(go_simp;rfl));(case hp=>exact (Reps.c5 (show Kd.M k42 _ _ _ (⟨4,0,0,0,(⟨#[]⟩:ByteArray)⟩:S42) [.int .i64 4,.int .i64 0,.int .i64 0,.int .i64 0,.string (⟨#[]⟩:ByteArray)] from (k42_mkM _ _ _ (⟨4,0,0,0,(⟨#[]⟩:ByteArray)⟩:S42) )) (Reps.none _ _)));intro v2 w59 ho60 hb hg_ hnew_;clear hg_ hnew_;(first|rw [← Ny1.out] at ho60|(simp only [Int.reduceToNat] at ho60;rw [← Ny1.out] at ho60));have n0_:=Aside0.mk (Kd.R_lower ho60 (below_size (by repeat (first|(with_reducible first|exact HB.out|apply below_alloc|apply pw_below_drewN|apply below_drew1)|exact HB.out))));have n1_:=Aside0.mk (below_step (by repeat (first|(with_reducible first|exact HB.out|apply below_alloc|apply pw_below_drewN|apply below_drew1)|exact HB.out)) hb);clear HB;have HO3:=n0_;have HB:=n1_;clear n0_ n1_;clear hb ho60;obtain ⟨Ao61,co61,eo61⟩:=Kd.R_slice HO3.out;subst eo61)|((with_reducible refine gate_callee (f:=17) rfl ?_);refine goesL_ (some 12) rfl rfl Tryz.func17 (by kernel_rfl) rfl #[.slice Ao61 y1.length co61] rfl (by (try simp only [List.map_toArray,List.map_cons,List.map_nil]);first|done|rfl|(simp only [List.length_drop,List.length_take];rfl)) ?_;(with_reducible refine (code_Code.calls k _ _ y1 t4 t5 _ ?side1 ?side2 A1.out).mono ?_);(case side1=>repeat (first|exact (Kd.R_reads' HO3.out).2.2|(with_reducible refine Kd.C_alloc ?_ _)|(with_reducible refine Kd.C_drewN ?_ _)|(with_reducible refine Kd.C_drew ?_)));(case side2=>exact (Kd.R_reads' HO3.out).2.1);rintro e w62 ⟨rfl,hb⟩;refine ⟨_,rfl,?_⟩;have n0_:=Aside0.mk (Kd.R_below (by (with_reducible repeat (first|apply Kd.R_alloc|apply Kd.R_drewN|apply Kd.R_drew));exact HO3.out) hb);have n1_:=Aside0.mk (below_step (by repeat (first|(with_reducible first|exact HB.out|apply below_alloc|apply pw_below_drewN|apply below_drew1)|exact HB.out)) hb);clear HO3;clear HB;have HO3:=n0_;have HB:=n1_;clear n0_ n1_;(try clear hb);(try clear hb2);(try clear hk);(try clear hi))|((with_reducible refine gate_callee (f:=8) rfl ?_);refine goesL_ (some 16) rfl rfl Tryz.func8 (by kernel_rfl) rfl #[.string (⟨#[49,49,49,48,49,48,49,48,49,48,48,49,48,48,48]⟩:ByteArray)] rfl (by (try simp only [List.map_toArray,List.map_cons,List.map_nil]);first|done|rfl) ?_;(with_reducible refine (code_Decode.calls k (⟨#[49,49,49,48,49,48,49,48,49,48,48,49,48,48,48]⟩:ByteArray) t6 t7 _ A2.out).mono ?_);rintro e w63 ⟨v8,rfl,ho0,hb⟩;refine ⟨_,rfl,?_⟩;have n0_:=Aside0.mk (Kd.R_elder' (by (with_reducible repeat (first|apply Kd.R_alloc|apply Kd.R_drewN|apply Kd.R_drew));exact HO3.out) (Kd.R_base ho0) hb);have n1_:=Aside0.mk (Kd.R_lower (Kd.R_new' ho0 (Kd.R_lt (by (with_reducible repeat (first|apply Kd.R_alloc|apply Kd.R_drewN|apply Kd.R_drew));exact HO3.out))) (below_size (by repeat (first|(with_reducible first|exact HB.out|apply below_alloc|apply pw_below_drewN|apply below_drew1)|exact HB.out))));have n2_:=Aside0.mk (below_step (by repeat (first|(with_reducible first|exact HB.out|apply below_alloc|apply pw_below_drewN|apply below_drew1)|exact HB.out)) hb);clear HO3;clear HB;have HO3:=n0_;have HO9:=n1_;have HB:=n2_;clear n0_ n1_ n2_;(try clear hb);(try clear hb2);(try clear hk);(try clear hi);(try clear ho0))|((with_reducible refine gate_callee (f:=13) rfl ?_);refine goesL_ (some 20) rfl rfl Tryz.func13 (by kernel_rfl) rfl #[.string (⟨#[115,101,116,32,49,32,49,48,48,59,32,99,111,110,115,32,48,32,49,32,48,59,32,106,117,109,112,32,48,32,45,50]⟩:ByteArray)] rfl (by (try simp only [List.map_toArray,List.map_cons,List.map_nil]);first|done|rfl) ?_;(with_reducible refine (code_Parse.calls k (⟨#[115,101,116,32,49,32,49,48,48,59,32,99,111,110,115,32,48,32,49,32,48,59,32,106,117,109,112,32,48,32,45,50]⟩:ByteArray) t10 t11 _ ?side1 A3.out).mono ?_);(case side1=>first|(refine LaidW.below HLD.out ?_;with_reducible exact HB.out)|(refine LaidW.below HLD.out ?_;with_reducible apply pw_below_drewN;with_reducible exact HB.out)|(refine LaidW.below HLD.out ?_;with_reducible apply below_alloc;with_reducible exact HB.out)|(refine LaidW.below HLD.out ?_;repeat (first|(with_reducible first|exact HB.out|apply below_alloc|apply pw_below_drewN|apply below_drew1)|exact HB.out);done)|exact HLD.out|(repeat (first|exact HLD.out|(with_reducible refine LaidW.drewN ?_ _)|(with_reducible refine LaidW.drew ?_)|(with_reducible refine LaidW.alloc ?_ _))));rintro e w64 ⟨v12,rfl,ho0,hb⟩;refine ⟨_,rfl,?_⟩;have n0_:=Aside0.mk (Kd.R_elder' (by (with_reducible repeat (first|apply Kd.R_alloc|apply Kd.R_drewN|apply Kd.R_drew));exact HO3.out) (Kd.R_base ho0) hb);have n1_:=Aside0.mk (Kd.R_elder' (by (with_reducible repeat (first|apply Kd.R_alloc|apply Kd.R_drewN|apply Kd.R_drew));exact HO9.out) (Kd.R_base ho0) hb);have n2_:=Aside0.mk (Kd.R_lower (Kd.R_new' (Kd.R_new' ho0 (Kd.R_lt (by (with_reducible repeat (first|apply Kd.R_alloc|apply Kd.R_drewN|apply Kd.R_drew));exact HO3.out))) (Kd.R_lt (by (with_reducible repeat (first|apply Kd.R_alloc|apply Kd.R_drewN|apply Kd.R_drew));exact HO9.out))) (below_size (by repeat (first|(with_reducible first|exact HB.out|apply below_alloc|apply pw_below_drewN|apply below_drew1)|exact HB.out))));have n3_:=Aside0.mk (below_step (by repeat (first|(with_reducible first|exact HB.out|apply below_alloc|apply pw_below_drewN|apply below_drew1)|exact HB.out)) hb);clear HO3;clear HO9;clear HB;have HO3:=n0_;have HO9:=n1_;have HO13:=n2_;have HB:=n3_;clear n0_ n1_ n2_ n3_;(try clear hb);(try clear hb2);(try clear hk);(try clear hi);(try clear ho0);obtain ⟨Ao65,co65,eo65⟩:=Kd.R_slice HO9.out;subst eo65)|(go_at_call 12;(with_reducible refine (narcissusref02_Same.calls k _ _ t6 _ _ y1 true _ ?side1 ?side2 ?side3 ?side4 A7.out).mono ?_);(case side1=>repeat (first|exact (Kd.R_reads' HO9.out).2.2|(with_reducible refine Kd.C_alloc ?_ _)|(with_reducible refine Kd.C_drewN ?_ _)|(with_reducible refine Kd.C_drew ?_)));(case side2=>exact (Kd.R_reads' HO9.out).2.1);(case side3=>repeat (first|exact (Kd.R_reads' HO3.out).2.2|(with_reducible refine Kd.C_alloc ?_ _)|(with_reducible refine Kd.C_drewN ?_ _)|(with_reducible refine Kd.C_drew ?_)));(case side4=>exact (Kd.R_reads' HO3.out).2.1);rintro e w' ⟨rfl,⟨nd,rfl⟩⟩)|((with_reducible refine gate_dst (N:=47) rfl ?_);(try (refine gate_guard (by rfl) ?_;dsimp only));refine Kd.R_lit k42 _ 42 ?hg (N:=47) ?hd (xs:=([(⟨0,1,0,0,(⟨#[49,48,48]⟩:ByteArray)⟩:S42),(⟨2,0,1,0,(⟨#[]⟩:ByteArray)⟩:S42),(⟨5,0,(-2),0,(⟨#[]⟩:ByteArray)⟩:S42)]:List (S42))) (inner:=[.int .i64 0,.int .i64 1,.int .i64 0,.int .i64 0,.string (⟨#[49,48,48]⟩:ByteArray),.int .i64 2,.int .i64 0,.int .i64 1,.int .i64 0,.string (⟨#[]⟩:ByteArray),.int .i64 5,.int .i64 0,.int .i64 (-2),.int .i64 0,.string (⟨#[]⟩:ByteArray)]) (ok:=fun _=>True) (okp:=fun _=>True) ?hr ?hp (fun _ hk=>hk) trivial (Below.refl _ _) (Nat.le_refl _) (by simp) ?_;(case hd=>rfl);(case hg=>rfl);(case hr=>first|(go_simp;done)|(go_simp;rfl));(case hp=>exact (Reps.c5 (show Kd.M k42 _ _ _ (⟨0,1,0,0,(⟨#[49,48,48]⟩:ByteArray)⟩:S42) [.int .i64 0,.int .i64 1,.int .i64 0,.int .i64 0,.string (⟨#[49,48,48]⟩:ByteArray)] from (k42_mkM _ _ _ (⟨0,1,0,0,(⟨#[49,48,48]⟩:ByteArray)⟩:S42) )) (Reps.c5 (show Kd.M k42 _ _ _ (⟨2,0,1,0,(⟨#[]⟩:ByteArray)⟩:S42) [.int .i64 2,.int .i64 0,.int .i64 1,.int .i64 0,.string (⟨#[]⟩:ByteArray)] from (k42_mkM _ _ _ (⟨2,0,1,0,(⟨#[]⟩:ByteArray)⟩:S42) )) (Reps.c5 (show Kd.M k42 _ _ _ (⟨5,0,(-2),0,(⟨#[]⟩:ByteArray)⟩:S42) [.int .i64 5,.int .i64 0,.int .i64 (-2),.int .i64 0,.string (⟨#[]⟩:ByteArray)] from (k42_mkM _ _ _ (⟨5,0,(-2),0,(⟨#[]⟩:ByteArray)⟩:S42) )) (Reps.none _ _)))));intro v16 w66 ho67 hb hg_ hnew_;clear hg_ hnew_;(first|rw [← Ny15.out] at ho67|(simp only [Int.reduceToNat] at ho67;rw [← Ny15.out] at ho67));have n0_:=Aside0.mk (Kd.R_elder' (by (with_reducible repeat (first|apply Kd.R_alloc|apply Kd.R_drewN|apply Kd.R_drew));exact HO3.out) (Kd.R_base ho67) hb);have n1_:=Aside0.mk (Kd.R_elder' (by (with_reducible repeat (first|apply Kd.R_alloc|apply Kd.R_drewN|apply Kd.R_drew));exact HO9.out) (Kd.R_base ho67) hb);have n2_:=Aside0.mk (Kd.R_elder' (by (with_reducible repeat (first|apply Kd.R_alloc|apply Kd.R_drewN|apply Kd.R_drew));exact HO13.out) (Kd.R_base ho67) hb);have n3_:=Aside0.mk (Kd.R_lower (Kd.R_new' (Kd.R_new' (Kd.R_new' ho67 (Kd.R_lt (by (with_reducible repeat (first|apply Kd.R_alloc|apply Kd.R_drewN|apply Kd.R_drew));exact HO3.out))) (Kd.R_lt (by (with_reducible repeat (first|apply Kd.R_alloc|apply Kd.R_drewN|apply Kd.R_drew));exact HO9.out))) (Kd.R_lt (by (with_reducible repeat (first|apply Kd.R_alloc|apply Kd.R_drewN|apply Kd.R_drew));exact HO13.out))) (below_size (by repeat (first|(with_reducible first|exact HB.out|apply below_alloc|apply pw_below_drewN|apply below_drew1)|exact HB.out))));have n4_:=Aside0.mk (below_step (by repeat (first|(with_reducible first|exact HB.out|apply below_alloc|apply pw_below_drewN|apply below_drew1)|exact HB.out)) hb);clear HO3;clear HO9;clear HO13;clear HB;have HO3:=n0_;have HO9:=n1_;have HO13:=n2_;have HO17:=n3_;have HB:=n4_;clear n0_ n1_ n2_ n3_ n4_;clear hb ho67;obtain ⟨Ao68,co68,eo68⟩:=Kd.R_slice HO13.out;subst eo68;obtain ⟨Ao69,co69,eo69⟩:=Kd.R_slice HO17.out;subst eo69)|(go_at_call 12;(with_reducible refine (narcissusref02_Same.calls k _ _ t10 _ _ y15 true _ ?side1 ?side2 ?side3 ?side4 A10.out).mono ?_);(case side1=>repeat (first|exact (Kd.R_reads' HO13.out).2.2|(with_reducible refine Kd.C_alloc ?_ _)|(with_reducible refine Kd.C_drewN ?_ _)|(with_reducible refine Kd.C_drew ?_)));(case side2=>exact (Kd.R_reads' HO13.out).2.1);(case side3=>repeat (first|exact (Kd.R_reads' HO17.out).2.2|(with_reducible refine Kd.C_alloc ?_ _)|(with_reducible refine Kd.C_drewN ?_ _)|(with_reducible refine Kd.C_drew ?_)));(case side4=>exact (Kd.R_reads' HO17.out).2.1);rintro e w' ⟨rfl,⟨nd,rfl⟩⟩)|((with_reducible refine gate_dst (N:=52) rfl ?_);(try (refine gate_guard (by rfl) ?_;dsimp only));refine Kd.R_lit k42 _ 42 ?hg (N:=52) ?hd (xs:=([(⟨5,0,1,0,(⟨#[]⟩:ByteArray)⟩:S42)]:List (S42))) (inner:=[.int .i64 5,.int .i64 0,.int .i64 1,.int .i64 0,.string (⟨#[]⟩:ByteArray)]) (ok:=fun _=>True) (okp:=fun _=>True) ?hr ?hp (fun _ hk=>hk) trivial (Below.refl _ _) (Nat.le_refl _) (by simp) ?_;(case hd=>rfl);(case hg=>rfl);(case hr=>first|(go_simp;done)|(go_simp;rfl));(case hp=>exact (Reps.c5 (show Kd.M k42 _ _ _ (⟨5,0,1,0,(⟨#[]⟩:ByteArray)⟩:S42) [.int .i64 5,.int .i64 0,.int .i64 1,.int .i64 0,.string (⟨#[]⟩:ByteArray)] from (k42_mkM _ _ _ (⟨5,0,1,0,(⟨#[]⟩:ByteArray)⟩:S42) )) (Reps.none _ _)));intro v20 w70 ho71 hb hg_ hnew_;clear hg_ hnew_;(first|rw [← Ny19.out] at ho71|(simp only [Int.reduceToNat] at ho71;rw [← Ny19.out] at ho71));have n0_:=Aside0.mk (Kd.R_elder' (by (with_reducible repeat (first|apply Kd.R_alloc|apply Kd.R_drewN|apply Kd.R_drew));exact HO3.out) (Kd.R_base ho71) hb);have n1_:=Aside0.mk (Kd.R_elder' (by (with_reducible repeat (first|apply Kd.R_alloc|apply Kd.R_drewN|apply Kd.R_drew));exact HO9.out) (Kd.R_base ho71) hb);have n2_:=Aside0.mk (Kd.R_elder' (by (with_reducible repeat (first|apply Kd.R_alloc|apply Kd.R_drewN|apply Kd.R_drew));exact HO13.out) (Kd.R_base ho71) hb);have n3_:=Aside0.mk (Kd.R_elder' (by (with_reducible repeat (first|apply Kd.R_alloc|apply Kd.R_drewN|apply Kd.R_drew));exact HO17.out) (Kd.R_base ho71) hb);have n4_:=Aside0.mk (Kd.R_lower (Kd.R_new' (Kd.R_new' (Kd.R_new' (Kd.R_new' ho71 (Kd.R_lt (by (with_reducible repeat (first|apply Kd.R_alloc|apply Kd.R_drewN|apply Kd.R_drew));exact HO3.out))) (Kd.R_lt (by (with_reducible repeat (first|apply Kd.R_alloc|apply Kd.R_drewN|apply Kd.R_drew));exact HO9.out))) (Kd.R_lt (by (with_reducible repeat (first|apply Kd.R_alloc|apply Kd.R_drewN|apply Kd.R_drew));exact HO13.out))) (Kd.R_lt (by (with_reducible repeat (first|apply Kd.R_alloc|apply Kd.R_drewN|apply Kd.R_drew));exact HO17.out))) (below_size (by repeat (first|(with_reducible first|exact HB.out|apply below_alloc|apply pw_below_drewN|apply below_drew1)|exact HB.out))));have n5_:=Aside0.mk (below_step (by repeat (first|(with_reducible first|exact HB.out|apply below_alloc|apply pw_below_drewN|apply below_drew1)|exact HB.out)) hb);clear HO3;clear HO9;clear HO13;clear HO17;clear HB;have HO3:=n0_;have HO9:=n1_;have HO13:=n2_;have HO17:=n3_;have HO21:=n4_;have HB:=n5_;clear n0_ n1_ n2_ n3_ n4_ n5_;clear hb ho71;obtain ⟨Ao72,co72,eo72⟩:=Kd.R_slice HO21.out;subst eo72)|(go_at_call 23;(with_reducible refine (code_Valid.calls k _ _ y19 false _ ?side1 ?side2 A12.out).mono ?_);(case side1=>repeat (first|exact (Kd.R_reads' HO21.out).2.2|(with_reducible refine Kd.C_alloc ?_ _)|(with_reducible refine Kd.C_drewN ?_ _)|(with_reducible refine Kd.C_drew ?_)));(case side2=>exact (Kd.R_reads' HO21.out).2.1);rintro e w73 ⟨rfl,hb⟩;have n0_:=Aside0.mk (Kd.R_below (by (with_reducible repeat (first|apply Kd.R_alloc|apply Kd.R_drewN|apply Kd.R_drew));exact HO3.out) hb);have n1_:=Aside0.mk (Kd.R_below (by (with_reducible repeat (first|apply Kd.R_alloc|apply Kd.R_drewN|apply Kd.R_drew));exact HO9.out) hb);have n2_:=Aside0.mk (Kd.R_below (by (with_reducible repeat (first|apply Kd.R_alloc|apply Kd.R_drewN|apply Kd.R_drew));exact HO13.out) hb);have n3_:=Aside0.mk (Kd.R_below (by (with_reducible repeat (first|apply Kd.R_alloc|apply Kd.R_drewN|apply Kd.R_drew));exact HO17.out) hb);have n4_:=Aside0.mk (Kd.R_below (by (with_reducible repeat (first|apply Kd.R_alloc|apply Kd.R_drewN|apply Kd.R_drew));exact HO21.out) hb);have n5_:=Aside0.mk (below_step (by repeat (first|(with_reducible first|exact HB.out|apply below_alloc|apply pw_below_drewN|apply below_drew1)|exact HB.out)) hb);clear HO3;clear HO9;clear HO13;clear HO17;clear HO21;clear HB;have HO3:=n0_;have HO9:=n1_;have HO13:=n2_;have HO17:=n3_;have HO21:=n4_;have HB:=n5_;clear n0_ n1_ n2_ n3_ n4_ n5_;(try clear hb);(try clear hb2);(try clear hk);(try clear hi)))
        go_ret
        exact ⟨by first|rfl|(simp [errW_none,errW_some]<;>rfl)|(simp [*,errW_none,errW_some]<;>rfl),by repeat (first|(with_reducible first|exact HB.out|apply below_alloc|apply pw_below_drewN|apply below_drew1)|exact HB.out)⟩
      ·replace c11:=Bool.eq_false_iff.mpr c11
       subst c11;have H1:(some false)=some r:=by rw [if_neg (show ¬ (false=true) by decide)] at H;exact H
       clear H;have H:=H1
       clear H1;obtain rfl:=Option.some.inj H
       go_enter Tryz.func10,Tryz.ntmps10
       go_wp2_with (first|((with_reducible refine gate_dst (N:=9) rfl ?_);(try (refine gate_guard (by rfl) ?_;dsimp only));refine Kd.R_lit k42 _ 42 ?hg (N:=9) ?hd (xs:=([(⟨4,0,0,0,(⟨#[]⟩:ByteArray)⟩:S42)]:List (S42))) (inner:=[.int .i64 4,.int .i64 0,.int .i64 0,.int .i64 0,.string (⟨#[]⟩:ByteArray)]) (ok:=fun _=>True) (okp:=fun _=>True) ?hr ?hp (fun _ hk=>hk) trivial (Below.refl _ _) (Nat.le_refl _) (by simp) ?_;(case hd=>rfl);(case hg=>rfl);(case hr=>first|(go_simp;done)|(go_simp;rfl));(case hp=>exact (Reps.c5 (show Kd.M k42 _ _ _ (⟨4,0,0,0,(⟨#[]⟩:ByteArray)⟩:S42) [.int .i64 4,.int .i64 0,.int .i64 0,.int .i64 0,.string (⟨#[]⟩:ByteArray)] from (k42_mkM _ _ _ (⟨4,0,0,0,(⟨#[]⟩:ByteArray)⟩:S42) )) (Reps.none _ _)));intro v2 w74 ho75 hb hg_ hnew_;clear hg_ hnew_;(first|rw [← Ny1.out] at ho75|(simp only [Int.reduceToNat] at ho75;rw [← Ny1.out] at ho75));have n0_:=Aside0.mk (Kd.R_lower ho75 (below_size (by repeat (first|(with_reducible first|exact HB.out|apply below_alloc|apply pw_below_drewN|apply below_drew1)|exact HB.out))));have n1_:=Aside0.mk (below_step (by repeat (first|(with_reducible first|exact HB.out|apply below_alloc|apply pw_below_drewN|apply below_drew1)|exact HB.out)) hb);clear HB;have HO3:=n0_;have HB:=n1_;clear n0_ n1_;clear hb ho75;obtain ⟨Ao76,co76,eo76⟩:=Kd.R_slice HO3.out;subst eo76)|((with_reducible refine gate_callee (f:=17) rfl ?_);refine goesL_ (some 12) rfl rfl Tryz.func17 (by kernel_rfl) rfl #[.slice Ao76 y1.length co76] rfl (by (try simp only [List.map_toArray,List.map_cons,List.map_nil]);first|done|rfl|(simp only [List.length_drop,List.length_take];rfl)) ?_;(with_reducible refine (code_Code.calls k _ _ y1 t4 t5 _ ?side1 ?side2 A1.out).mono ?_);(case side1=>repeat (first|exact (Kd.R_reads' HO3.out).2.2|(with_reducible refine Kd.C_alloc ?_ _)|(with_reducible refine Kd.C_drewN ?_ _)|(with_reducible refine Kd.C_drew ?_)));(case side2=>exact (Kd.R_reads' HO3.out).2.1);rintro e w77 ⟨rfl,hb⟩;refine ⟨_,rfl,?_⟩;have n0_:=Aside0.mk (Kd.R_below (by (with_reducible repeat (first|apply Kd.R_alloc|apply Kd.R_drewN|apply Kd.R_drew));exact HO3.out) hb);have n1_:=Aside0.mk (below_step (by repeat (first|(with_reducible first|exact HB.out|apply below_alloc|apply pw_below_drewN|apply below_drew1)|exact HB.out)) hb);clear HO3;clear HB;have HO3:=n0_;have HB:=n1_;clear n0_ n1_;(try clear hb);(try clear hb2);(try clear hk);(try clear hi))|((with_reducible refine gate_callee (f:=8) rfl ?_);refine goesL_ (some 16) rfl rfl Tryz.func8 (by kernel_rfl) rfl #[.string (⟨#[49,49,49,48,49,48,49,48,49,48,48,49,48,48,48]⟩:ByteArray)] rfl (by (try simp only [List.map_toArray,List.map_cons,List.map_nil]);first|done|rfl) ?_;(with_reducible refine (code_Decode.calls k (⟨#[49,49,49,48,49,48,49,48,49,48,48,49,48,48,48]⟩:ByteArray) t6 t7 _ A2.out).mono ?_);rintro e w78 ⟨v8,rfl,ho0,hb⟩;refine ⟨_,rfl,?_⟩;have n0_:=Aside0.mk (Kd.R_elder' (by (with_reducible repeat (first|apply Kd.R_alloc|apply Kd.R_drewN|apply Kd.R_drew));exact HO3.out) (Kd.R_base ho0) hb);have n1_:=Aside0.mk (Kd.R_lower (Kd.R_new' ho0 (Kd.R_lt (by (with_reducible repeat (first|apply Kd.R_alloc|apply Kd.R_drewN|apply Kd.R_drew));exact HO3.out))) (below_size (by repeat (first|(with_reducible first|exact HB.out|apply below_alloc|apply pw_below_drewN|apply below_drew1)|exact HB.out))));have n2_:=Aside0.mk (below_step (by repeat (first|(with_reducible first|exact HB.out|apply below_alloc|apply pw_below_drewN|apply below_drew1)|exact HB.out)) hb);clear HO3;clear HB;have HO3:=n0_;have HO9:=n1_;have HB:=n2_;clear n0_ n1_ n2_;(try clear hb);(try clear hb2);(try clear hk);(try clear hi);(try clear ho0))|((with_reducible refine gate_callee (f:=13) rfl ?_);refine goesL_ (some 20) rfl rfl Tryz.func13 (by kernel_rfl) rfl #[.string (⟨#[115,101,116,32,49,32,49,48,48,59,32,99,111,110,115,32,48,32,49,32,48,59,32,106,117,109,112,32,48,32,45,50]⟩:ByteArray)] rfl (by (try simp only [List.map_toArray,List.map_cons,List.map_nil]);first|done|rfl) ?_;(with_reducible refine (code_Parse.calls k (⟨#[115,101,116,32,49,32,49,48,48,59,32,99,111,110,115,32,48,32,49,32,48,59,32,106,117,109,112,32,48,32,45,50]⟩:ByteArray) t10 t11 _ ?side1 A3.out).mono ?_);(case side1=>first|(refine LaidW.below HLD.out ?_;with_reducible exact HB.out)|(refine LaidW.below HLD.out ?_;with_reducible apply pw_below_drewN;with_reducible exact HB.out)|(refine LaidW.below HLD.out ?_;with_reducible apply below_alloc;with_reducible exact HB.out)|(refine LaidW.below HLD.out ?_;repeat (first|(with_reducible first|exact HB.out|apply below_alloc|apply pw_below_drewN|apply below_drew1)|exact HB.out);done)|exact HLD.out|(repeat (first|exact HLD.out|(with_reducible refine LaidW.drewN ?_ _)|(with_reducible refine LaidW.drew ?_)|(with_reducible refine LaidW.alloc ?_ _))));rintro e w79 ⟨v12,rfl,ho0,hb⟩;refine ⟨_,rfl,?_⟩;have n0_:=Aside0.mk (Kd.R_elder' (by (with_reducible repeat (first|apply Kd.R_alloc|apply Kd.R_drewN|apply Kd.R_drew));exact HO3.out) (Kd.R_base ho0) hb);have n1_:=Aside0.mk (Kd.R_elder' (by (with_reducible repeat (first|apply Kd.R_alloc|apply Kd.R_drewN|apply Kd.R_drew));exact HO9.out) (Kd.R_base ho0) hb);have n2_:=Aside0.mk (Kd.R_lower (Kd.R_new' (Kd.R_new' ho0 (Kd.R_lt (by (with_reducible repeat (first|apply Kd.R_alloc|apply Kd.R_drewN|apply Kd.R_drew));exact HO3.out))) (Kd.R_lt (by (with_reducible repeat (first|apply Kd.R_alloc|apply Kd.R_drewN|apply Kd.R_drew));exact HO9.out))) (below_size (by repeat (first|(with_reducible first|exact HB.out|apply below_alloc|apply pw_below_drewN|apply below_drew1)|exact HB.out))));have n3_:=Aside0.mk (below_step (by repeat (first|(with_reducible first|exact HB.out|apply below_alloc|apply pw_below_drewN|apply below_drew1)|exact HB.out)) hb);clear HO3;clear HO9;clear HB;have HO3:=n0_;have HO9:=n1_;have HO13:=n2_;have HB:=n3_;clear n0_ n1_ n2_ n3_;(try clear hb);(try clear hb2);(try clear hk);(try clear hi);(try clear ho0);obtain ⟨Ao80,co80,eo80⟩:=Kd.R_slice HO9.out;subst eo80)|(go_at_call 12;(with_reducible refine (narcissusref02_Same.calls k _ _ t6 _ _ y1 true _ ?side1 ?side2 ?side3 ?side4 A7.out).mono ?_);(case side1=>repeat (first|exact (Kd.R_reads' HO9.out).2.2|(with_reducible refine Kd.C_alloc ?_ _)|(with_reducible refine Kd.C_drewN ?_ _)|(with_reducible refine Kd.C_drew ?_)));(case side2=>exact (Kd.R_reads' HO9.out).2.1);(case side3=>repeat (first|exact (Kd.R_reads' HO3.out).2.2|(with_reducible refine Kd.C_alloc ?_ _)|(with_reducible refine Kd.C_drewN ?_ _)|(with_reducible refine Kd.C_drew ?_)));(case side4=>exact (Kd.R_reads' HO3.out).2.1);rintro e w' ⟨rfl,⟨nd,rfl⟩⟩)|((with_reducible refine gate_dst (N:=47) rfl ?_);(try (refine gate_guard (by rfl) ?_;dsimp only));refine Kd.R_lit k42 _ 42 ?hg (N:=47) ?hd (xs:=([(⟨0,1,0,0,(⟨#[49,48,48]⟩:ByteArray)⟩:S42),(⟨2,0,1,0,(⟨#[]⟩:ByteArray)⟩:S42),(⟨5,0,(-2),0,(⟨#[]⟩:ByteArray)⟩:S42)]:List (S42))) (inner:=[.int .i64 0,.int .i64 1,.int .i64 0,.int .i64 0,.string (⟨#[49,48,48]⟩:ByteArray),.int .i64 2,.int .i64 0,.int .i64 1,.int .i64 0,.string (⟨#[]⟩:ByteArray),.int .i64 5,.int .i64 0,.int .i64 (-2),.int .i64 0,.string (⟨#[]⟩:ByteArray)]) (ok:=fun _=>True) (okp:=fun _=>True) ?hr ?hp (fun _ hk=>hk) trivial (Below.refl _ _) (Nat.le_refl _) (by simp) ?_;(case hd=>rfl);(case hg=>rfl);(case hr=>first|(go_simp;done)|(go_simp;rfl));(case hp=>exact (Reps.c5 (show Kd.M k42 _ _ _ (⟨0,1,0,0,(⟨#[49,48,48]⟩:ByteArray)⟩:S42) [.int .i64 0,.int .i64 1,.int .i64 0,.int .i64 0,.string (⟨#[49,48,48]⟩:ByteArray)] from (k42_mkM _ _ _ (⟨0,1,0,0,(⟨#[49,48,48]⟩:ByteArray)⟩:S42) )) (Reps.c5 (show Kd.M k42 _ _ _ (⟨2,0,1,0,(⟨#[]⟩:ByteArray)⟩:S42) [.int .i64 2,.int .i64 0,.int .i64 1,.int .i64 0,.string (⟨#[]⟩:ByteArray)] from (k42_mkM _ _ _ (⟨2,0,1,0,(⟨#[]⟩:ByteArray)⟩:S42) )) (Reps.c5 (show Kd.M k42 _ _ _ (⟨5,0,(-2),0,(⟨#[]⟩:ByteArray)⟩:S42) [.int .i64 5,.int .i64 0,.int .i64 (-2),.int .i64 0,.string (⟨#[]⟩:ByteArray)] from (k42_mkM _ _ _ (⟨5,0,(-2),0,(⟨#[]⟩:ByteArray)⟩:S42) )) (Reps.none _ _)))));intro v16 w81 ho82 hb hg_ hnew_;clear hg_ hnew_;(first|rw [← Ny15.out] at ho82|(simp only [Int.reduceToNat] at ho82;rw [← Ny15.out] at ho82));have n0_:=Aside0.mk (Kd.R_elder' (by (with_reducible repeat (first|apply Kd.R_alloc|apply Kd.R_drewN|apply Kd.R_drew));exact HO3.out) (Kd.R_base ho82) hb);have n1_:=Aside0.mk (Kd.R_elder' (by (with_reducible repeat (first|apply Kd.R_alloc|apply Kd.R_drewN|apply Kd.R_drew));exact HO9.out) (Kd.R_base ho82) hb);have n2_:=Aside0.mk (Kd.R_elder' (by (with_reducible repeat (first|apply Kd.R_alloc|apply Kd.R_drewN|apply Kd.R_drew));exact HO13.out) (Kd.R_base ho82) hb);have n3_:=Aside0.mk (Kd.R_lower (Kd.R_new' (Kd.R_new' (Kd.R_new' ho82 (Kd.R_lt (by (with_reducible repeat (first|apply Kd.R_alloc|apply Kd.R_drewN|apply Kd.R_drew));exact HO3.out))) (Kd.R_lt (by (with_reducible repeat (first|apply Kd.R_alloc|apply Kd.R_drewN|apply Kd.R_drew));exact HO9.out))) (Kd.R_lt (by (with_reducible repeat (first|apply Kd.R_alloc|apply Kd.R_drewN|apply Kd.R_drew));exact HO13.out))) (below_size (by repeat (first|(with_reducible first|exact HB.out|apply below_alloc|apply pw_below_drewN|apply below_drew1)|exact HB.out))));have n4_:=Aside0.mk (below_step (by repeat (first|(with_reducible first|exact HB.out|apply below_alloc|apply pw_below_drewN|apply below_drew1)|exact HB.out)) hb);clear HO3;clear HO9;clear HO13;clear HB;have HO3:=n0_;have HO9:=n1_;have HO13:=n2_;have HO17:=n3_;have HB:=n4_;clear n0_ n1_ n2_ n3_ n4_;clear hb ho82;obtain ⟨Ao83,co83,eo83⟩:=Kd.R_slice HO13.out;subst eo83;obtain ⟨Ao84,co84,eo84⟩:=Kd.R_slice HO17.out;subst eo84)|(go_at_call 12;(with_reducible refine (narcissusref02_Same.calls k _ _ t10 _ _ y15 false _ ?side1 ?side2 ?side3 ?side4 A10.out).mono ?_);(case side1=>repeat (first|exact (Kd.R_reads' HO13.out).2.2|(with_reducible refine Kd.C_alloc ?_ _)|(with_reducible refine Kd.C_drewN ?_ _)|(with_reducible refine Kd.C_drew ?_)));(case side2=>exact (Kd.R_reads' HO13.out).2.1);(case side3=>repeat (first|exact (Kd.R_reads' HO17.out).2.2|(with_reducible refine Kd.C_alloc ?_ _)|(with_reducible refine Kd.C_drewN ?_ _)|(with_reducible refine Kd.C_drew ?_)));(case side4=>exact (Kd.R_reads' HO17.out).2.1);rintro e w' ⟨rfl,⟨nd,rfl⟩⟩))
       go_ret
       exact ⟨by first|rfl|(simp [errW_none,errW_some]<;>rfl)|(simp [*,errW_none,errW_some]<;>rfl),by repeat (first|(with_reducible first|exact HB.out|apply below_alloc|apply pw_below_drewN|apply below_drew1)|exact HB.out)⟩
     ·rw [if_neg c9] at H
      have c9b0:(t11 == 0)=false:=beq_eq_false_iff_ne.mpr c9
      have c9b1:(t11 != 0)=true:=bne_iff_ne.mpr c9
      obtain rfl:=Option.some.inj H
      go_enter Tryz.func10,Tryz.ntmps10
      go_wp2_with (first|((with_reducible refine gate_dst (N:=9) rfl ?_);(try (refine gate_guard (by rfl) ?_;dsimp only));refine Kd.R_lit k42 _ 42 ?hg (N:=9) ?hd (xs:=([(⟨4,0,0,0,(⟨#[]⟩:ByteArray)⟩:S42)]:List (S42))) (inner:=[.int .i64 4,.int .i64 0,.int .i64 0,.int .i64 0,.string (⟨#[]⟩:ByteArray)]) (ok:=fun _=>True) (okp:=fun _=>True) ?hr ?hp (fun _ hk=>hk) trivial (Below.refl _ _) (Nat.le_refl _) (by simp) ?_;(case hd=>rfl);(case hg=>rfl);(case hr=>first|(go_simp;done)|(go_simp;rfl));(case hp=>exact (Reps.c5 (show Kd.M k42 _ _ _ (⟨4,0,0,0,(⟨#[]⟩:ByteArray)⟩:S42) [.int .i64 4,.int .i64 0,.int .i64 0,.int .i64 0,.string (⟨#[]⟩:ByteArray)] from (k42_mkM _ _ _ (⟨4,0,0,0,(⟨#[]⟩:ByteArray)⟩:S42) )) (Reps.none _ _)));intro v2 w85 ho86 hb hg_ hnew_;clear hg_ hnew_;(first|rw [← Ny1.out] at ho86|(simp only [Int.reduceToNat] at ho86;rw [← Ny1.out] at ho86));have n0_:=Aside0.mk (Kd.R_lower ho86 (below_size (by repeat (first|(with_reducible first|exact HB.out|apply below_alloc|apply pw_below_drewN|apply below_drew1)|exact HB.out))));have n1_:=Aside0.mk (below_step (by repeat (first|(with_reducible first|exact HB.out|apply below_alloc|apply pw_below_drewN|apply below_drew1)|exact HB.out)) hb);clear HB;have HO3:=n0_;have HB:=n1_;clear n0_ n1_;clear hb ho86;obtain ⟨Ao87,co87,eo87⟩:=Kd.R_slice HO3.out;subst eo87)|((with_reducible refine gate_callee (f:=17) rfl ?_);refine goesL_ (some 12) rfl rfl Tryz.func17 (by kernel_rfl) rfl #[.slice Ao87 y1.length co87] rfl (by (try simp only [List.map_toArray,List.map_cons,List.map_nil]);first|done|rfl|(simp only [List.length_drop,List.length_take];rfl)) ?_;(with_reducible refine (code_Code.calls k _ _ y1 t4 t5 _ ?side1 ?side2 A1.out).mono ?_);(case side1=>repeat (first|exact (Kd.R_reads' HO3.out).2.2|(with_reducible refine Kd.C_alloc ?_ _)|(with_reducible refine Kd.C_drewN ?_ _)|(with_reducible refine Kd.C_drew ?_)));(case side2=>exact (Kd.R_reads' HO3.out).2.1);rintro e w88 ⟨rfl,hb⟩;refine ⟨_,rfl,?_⟩;have n0_:=Aside0.mk (Kd.R_below (by (with_reducible repeat (first|apply Kd.R_alloc|apply Kd.R_drewN|apply Kd.R_drew));exact HO3.out) hb);have n1_:=Aside0.mk (below_step (by repeat (first|(with_reducible first|exact HB.out|apply below_alloc|apply pw_below_drewN|apply below_drew1)|exact HB.out)) hb);clear HO3;clear HB;have HO3:=n0_;have HB:=n1_;clear n0_ n1_;(try clear hb);(try clear hb2);(try clear hk);(try clear hi))|((with_reducible refine gate_callee (f:=8) rfl ?_);refine goesL_ (some 16) rfl rfl Tryz.func8 (by kernel_rfl) rfl #[.string (⟨#[49,49,49,48,49,48,49,48,49,48,48,49,48,48,48]⟩:ByteArray)] rfl (by (try simp only [List.map_toArray,List.map_cons,List.map_nil]);first|done|rfl) ?_;(with_reducible refine (code_Decode.calls k (⟨#[49,49,49,48,49,48,49,48,49,48,48,49,48,48,48]⟩:ByteArray) t6 t7 _ A2.out).mono ?_);rintro e w89 ⟨v8,rfl,ho0,hb⟩;refine ⟨_,rfl,?_⟩;have n0_:=Aside0.mk (Kd.R_elder' (by (with_reducible repeat (first|apply Kd.R_alloc|apply Kd.R_drewN|apply Kd.R_drew));exact HO3.out) (Kd.R_base ho0) hb);have n1_:=Aside0.mk (Kd.R_lower (Kd.R_new' ho0 (Kd.R_lt (by (with_reducible repeat (first|apply Kd.R_alloc|apply Kd.R_drewN|apply Kd.R_drew));exact HO3.out))) (below_size (by repeat (first|(with_reducible first|exact HB.out|apply below_alloc|apply pw_below_drewN|apply below_drew1)|exact HB.out))));have n2_:=Aside0.mk (below_step (by repeat (first|(with_reducible first|exact HB.out|apply below_alloc|apply pw_below_drewN|apply below_drew1)|exact HB.out)) hb);clear HO3;clear HB;have HO3:=n0_;have HO9:=n1_;have HB:=n2_;clear n0_ n1_ n2_;(try clear hb);(try clear hb2);(try clear hk);(try clear hi);(try clear ho0))|((with_reducible refine gate_callee (f:=13) rfl ?_);refine goesL_ (some 20) rfl rfl Tryz.func13 (by kernel_rfl) rfl #[.string (⟨#[115,101,116,32,49,32,49,48,48,59,32,99,111,110,115,32,48,32,49,32,48,59,32,106,117,109,112,32,48,32,45,50]⟩:ByteArray)] rfl (by (try simp only [List.map_toArray,List.map_cons,List.map_nil]);first|done|rfl) ?_;(with_reducible refine (code_Parse.calls k (⟨#[115,101,116,32,49,32,49,48,48,59,32,99,111,110,115,32,48,32,49,32,48,59,32,106,117,109,112,32,48,32,45,50]⟩:ByteArray) t10 t11 _ ?side1 A3.out).mono ?_);(case side1=>first|(refine LaidW.below HLD.out ?_;with_reducible exact HB.out)|(refine LaidW.below HLD.out ?_;with_reducible apply pw_below_drewN;with_reducible exact HB.out)|(refine LaidW.below HLD.out ?_;with_reducible apply below_alloc;with_reducible exact HB.out)|(refine LaidW.below HLD.out ?_;repeat (first|(with_reducible first|exact HB.out|apply below_alloc|apply pw_below_drewN|apply below_drew1)|exact HB.out);done)|exact HLD.out|(repeat (first|exact HLD.out|(with_reducible refine LaidW.drewN ?_ _)|(with_reducible refine LaidW.drew ?_)|(with_reducible refine LaidW.alloc ?_ _))));rintro e w90 ⟨v12,rfl,ho0,hb⟩;refine ⟨_,rfl,?_⟩;have n0_:=Aside0.mk (Kd.R_elder' (by (with_reducible repeat (first|apply Kd.R_alloc|apply Kd.R_drewN|apply Kd.R_drew));exact HO3.out) (Kd.R_base ho0) hb);have n1_:=Aside0.mk (Kd.R_elder' (by (with_reducible repeat (first|apply Kd.R_alloc|apply Kd.R_drewN|apply Kd.R_drew));exact HO9.out) (Kd.R_base ho0) hb);have n2_:=Aside0.mk (Kd.R_lower (Kd.R_new' (Kd.R_new' ho0 (Kd.R_lt (by (with_reducible repeat (first|apply Kd.R_alloc|apply Kd.R_drewN|apply Kd.R_drew));exact HO3.out))) (Kd.R_lt (by (with_reducible repeat (first|apply Kd.R_alloc|apply Kd.R_drewN|apply Kd.R_drew));exact HO9.out))) (below_size (by repeat (first|(with_reducible first|exact HB.out|apply below_alloc|apply pw_below_drewN|apply below_drew1)|exact HB.out))));have n3_:=Aside0.mk (below_step (by repeat (first|(with_reducible first|exact HB.out|apply below_alloc|apply pw_below_drewN|apply below_drew1)|exact HB.out)) hb);clear HO3;clear HO9;clear HB;have HO3:=n0_;have HO9:=n1_;have HO13:=n2_;have HB:=n3_;clear n0_ n1_ n2_ n3_;(try clear hb);(try clear hb2);(try clear hk);(try clear hi);(try clear ho0);obtain ⟨Ao91,co91,eo91⟩:=Kd.R_slice HO9.out;subst eo91)|(go_at_call 12;(with_reducible refine (narcissusref02_Same.calls k _ _ t6 _ _ y1 true _ ?side1 ?side2 ?side3 ?side4 A7.out).mono ?_);(case side1=>repeat (first|exact (Kd.R_reads' HO9.out).2.2|(with_reducible refine Kd.C_alloc ?_ _)|(with_reducible refine Kd.C_drewN ?_ _)|(with_reducible refine Kd.C_drew ?_)));(case side2=>exact (Kd.R_reads' HO9.out).2.1);(case side3=>repeat (first|exact (Kd.R_reads' HO3.out).2.2|(with_reducible refine Kd.C_alloc ?_ _)|(with_reducible refine Kd.C_drewN ?_ _)|(with_reducible refine Kd.C_drew ?_)));(case side4=>exact (Kd.R_reads' HO3.out).2.1);rintro e w' ⟨rfl,⟨nd,rfl⟩⟩))
      go_ret
      exact ⟨by first|rfl|(simp [errW_none,errW_some]<;>rfl)|(simp [*,errW_none,errW_some]<;>rfl),by repeat (first|(with_reducible first|exact HB.out|apply below_alloc|apply pw_below_drewN|apply below_drew1)|exact HB.out)⟩
    ·replace c8:=Bool.eq_false_iff.mpr c8
     subst c8;have H1:(some false)=some r:=by rw [if_neg (show ¬ (false=true) by decide)] at H;exact H
     clear H;have H:=H1
     clear H1;obtain rfl:=Option.some.inj H
     go_enter Tryz.func10,Tryz.ntmps10
     go_wp2_with (first|((with_reducible refine gate_dst (N:=9) rfl ?_);(try (refine gate_guard (by rfl) ?_;dsimp only));refine Kd.R_lit k42 _ 42 ?hg (N:=9) ?hd (xs:=([(⟨4,0,0,0,(⟨#[]⟩:ByteArray)⟩:S42)]:List (S42))) (inner:=[.int .i64 4,.int .i64 0,.int .i64 0,.int .i64 0,.string (⟨#[]⟩:ByteArray)]) (ok:=fun _=>True) (okp:=fun _=>True) ?hr ?hp (fun _ hk=>hk) trivial (Below.refl _ _) (Nat.le_refl _) (by simp) ?_;(case hd=>rfl);(case hg=>rfl);(case hr=>first|(go_simp;done)|(go_simp;rfl));(case hp=>exact (Reps.c5 (show Kd.M k42 _ _ _ (⟨4,0,0,0,(⟨#[]⟩:ByteArray)⟩:S42) [.int .i64 4,.int .i64 0,.int .i64 0,.int .i64 0,.string (⟨#[]⟩:ByteArray)] from (k42_mkM _ _ _ (⟨4,0,0,0,(⟨#[]⟩:ByteArray)⟩:S42) )) (Reps.none _ _)));intro v2 w92 ho93 hb hg_ hnew_;clear hg_ hnew_;(first|rw [← Ny1.out] at ho93|(simp only [Int.reduceToNat] at ho93;rw [← Ny1.out] at ho93));have n0_:=Aside0.mk (Kd.R_lower ho93 (below_size (by repeat (first|(with_reducible first|exact HB.out|apply below_alloc|apply pw_below_drewN|apply below_drew1)|exact HB.out))));have n1_:=Aside0.mk (below_step (by repeat (first|(with_reducible first|exact HB.out|apply below_alloc|apply pw_below_drewN|apply below_drew1)|exact HB.out)) hb);clear HB;have HO3:=n0_;have HB:=n1_;clear n0_ n1_;clear hb ho93;obtain ⟨Ao94,co94,eo94⟩:=Kd.R_slice HO3.out;subst eo94)|((with_reducible refine gate_callee (f:=17) rfl ?_);refine goesL_ (some 12) rfl rfl Tryz.func17 (by kernel_rfl) rfl #[.slice Ao94 y1.length co94] rfl (by (try simp only [List.map_toArray,List.map_cons,List.map_nil]);first|done|rfl|(simp only [List.length_drop,List.length_take];rfl)) ?_;(with_reducible refine (code_Code.calls k _ _ y1 t4 t5 _ ?side1 ?side2 A1.out).mono ?_);(case side1=>repeat (first|exact (Kd.R_reads' HO3.out).2.2|(with_reducible refine Kd.C_alloc ?_ _)|(with_reducible refine Kd.C_drewN ?_ _)|(with_reducible refine Kd.C_drew ?_)));(case side2=>exact (Kd.R_reads' HO3.out).2.1);rintro e w95 ⟨rfl,hb⟩;refine ⟨_,rfl,?_⟩;have n0_:=Aside0.mk (Kd.R_below (by (with_reducible repeat (first|apply Kd.R_alloc|apply Kd.R_drewN|apply Kd.R_drew));exact HO3.out) hb);have n1_:=Aside0.mk (below_step (by repeat (first|(with_reducible first|exact HB.out|apply below_alloc|apply pw_below_drewN|apply below_drew1)|exact HB.out)) hb);clear HO3;clear HB;have HO3:=n0_;have HB:=n1_;clear n0_ n1_;(try clear hb);(try clear hb2);(try clear hk);(try clear hi))|((with_reducible refine gate_callee (f:=8) rfl ?_);refine goesL_ (some 16) rfl rfl Tryz.func8 (by kernel_rfl) rfl #[.string (⟨#[49,49,49,48,49,48,49,48,49,48,48,49,48,48,48]⟩:ByteArray)] rfl (by (try simp only [List.map_toArray,List.map_cons,List.map_nil]);first|done|rfl) ?_;(with_reducible refine (code_Decode.calls k (⟨#[49,49,49,48,49,48,49,48,49,48,48,49,48,48,48]⟩:ByteArray) t6 t7 _ A2.out).mono ?_);rintro e w96 ⟨v8,rfl,ho0,hb⟩;refine ⟨_,rfl,?_⟩;have n0_:=Aside0.mk (Kd.R_elder' (by (with_reducible repeat (first|apply Kd.R_alloc|apply Kd.R_drewN|apply Kd.R_drew));exact HO3.out) (Kd.R_base ho0) hb);have n1_:=Aside0.mk (Kd.R_lower (Kd.R_new' ho0 (Kd.R_lt (by (with_reducible repeat (first|apply Kd.R_alloc|apply Kd.R_drewN|apply Kd.R_drew));exact HO3.out))) (below_size (by repeat (first|(with_reducible first|exact HB.out|apply below_alloc|apply pw_below_drewN|apply below_drew1)|exact HB.out))));have n2_:=Aside0.mk (below_step (by repeat (first|(with_reducible first|exact HB.out|apply below_alloc|apply pw_below_drewN|apply below_drew1)|exact HB.out)) hb);clear HO3;clear HB;have HO3:=n0_;have HO9:=n1_;have HB:=n2_;clear n0_ n1_ n2_;(try clear hb);(try clear hb2);(try clear hk);(try clear hi);(try clear ho0))|((with_reducible refine gate_callee (f:=13) rfl ?_);refine goesL_ (some 20) rfl rfl Tryz.func13 (by kernel_rfl) rfl #[.string (⟨#[115,101,116,32,49,32,49,48,48,59,32,99,111,110,115,32,48,32,49,32,48,59,32,106,117,109,112,32,48,32,45,50]⟩:ByteArray)] rfl (by (try simp only [List.map_toArray,List.map_cons,List.map_nil]);first|done|rfl) ?_;(with_reducible refine (code_Parse.calls k (⟨#[115,101,116,32,49,32,49,48,48,59,32,99,111,110,115,32,48,32,49,32,48,59,32,106,117,109,112,32,48,32,45,50]⟩:ByteArray) t10 t11 _ ?side1 A3.out).mono ?_);(case side1=>first|(refine LaidW.below HLD.out ?_;with_reducible exact HB.out)|(refine LaidW.below HLD.out ?_;with_reducible apply pw_below_drewN;with_reducible exact HB.out)|(refine LaidW.below HLD.out ?_;with_reducible apply below_alloc;with_reducible exact HB.out)|(refine LaidW.below HLD.out ?_;repeat (first|(with_reducible first|exact HB.out|apply below_alloc|apply pw_below_drewN|apply below_drew1)|exact HB.out);done)|exact HLD.out|(repeat (first|exact HLD.out|(with_reducible refine LaidW.drewN ?_ _)|(with_reducible refine LaidW.drew ?_)|(with_reducible refine LaidW.alloc ?_ _))));rintro e w97 ⟨v12,rfl,ho0,hb⟩;refine ⟨_,rfl,?_⟩;have n0_:=Aside0.mk (Kd.R_elder' (by (with_reducible repeat (first|apply Kd.R_alloc|apply Kd.R_drewN|apply Kd.R_drew));exact HO3.out) (Kd.R_base ho0) hb);have n1_:=Aside0.mk (Kd.R_elder' (by (with_reducible repeat (first|apply Kd.R_alloc|apply Kd.R_drewN|apply Kd.R_drew));exact HO9.out) (Kd.R_base ho0) hb);have n2_:=Aside0.mk (Kd.R_lower (Kd.R_new' (Kd.R_new' ho0 (Kd.R_lt (by (with_reducible repeat (first|apply Kd.R_alloc|apply Kd.R_drewN|apply Kd.R_drew));exact HO3.out))) (Kd.R_lt (by (with_reducible repeat (first|apply Kd.R_alloc|apply Kd.R_drewN|apply Kd.R_drew));exact HO9.out))) (below_size (by repeat (first|(with_reducible first|exact HB.out|apply below_alloc|apply pw_below_drewN|apply below_drew1)|exact HB.out))));have n3_:=Aside0.mk (below_step (by repeat (first|(with_reducible first|exact HB.out|apply below_alloc|apply pw_below_drewN|apply below_drew1)|exact HB.out)) hb);clear HO3;clear HO9;clear HB;have HO3:=n0_;have HO9:=n1_;have HO13:=n2_;have HB:=n3_;clear n0_ n1_ n2_ n3_;(try clear hb);(try clear hb2);(try clear hk);(try clear hi);(try clear ho0);obtain ⟨Ao98,co98,eo98⟩:=Kd.R_slice HO9.out;subst eo98)|(go_at_call 12;(with_reducible refine (narcissusref02_Same.calls k _ _ t6 _ _ y1 false _ ?side1 ?side2 ?side3 ?side4 A7.out).mono ?_);(case side1=>repeat (first|exact (Kd.R_reads' HO9.out).2.2|(with_reducible refine Kd.C_alloc ?_ _)|(with_reducible refine Kd.C_drewN ?_ _)|(with_reducible refine Kd.C_drew ?_)));(case side2=>exact (Kd.R_reads' HO9.out).2.1);(case side3=>repeat (first|exact (Kd.R_reads' HO3.out).2.2|(with_reducible refine Kd.C_alloc ?_ _)|(with_reducible refine Kd.C_drewN ?_ _)|(with_reducible refine Kd.C_drew ?_)));(case side4=>exact (Kd.R_reads' HO3.out).2.1);rintro e w' ⟨rfl,⟨nd,rfl⟩⟩))
     go_ret
     exact ⟨by first|rfl|(simp [errW_none,errW_some]<;>rfl)|(simp [*,errW_none,errW_some]<;>rfl),by repeat (first|(with_reducible first|exact HB.out|apply below_alloc|apply pw_below_drewN|apply below_drew1)|exact HB.out)⟩
   ·rw [if_neg c6] at H
    have c6b0:(t7 == 0)=false:=beq_eq_false_iff_ne.mpr c6
    have c6b1:(t7 != 0)=true:=bne_iff_ne.mpr c6
    obtain rfl:=Option.some.inj H
    go_enter Tryz.func10,Tryz.ntmps10
    go_wp2_with (first|((with_reducible refine gate_dst (N:=9) rfl ?_);(try (refine gate_guard (by rfl) ?_;dsimp only));refine Kd.R_lit k42 _ 42 ?hg (N:=9) ?hd (xs:=([(⟨4,0,0,0,(⟨#[]⟩:ByteArray)⟩:S42)]:List (S42))) (inner:=[.int .i64 4,.int .i64 0,.int .i64 0,.int .i64 0,.string (⟨#[]⟩:ByteArray)]) (ok:=fun _=>True) (okp:=fun _=>True) ?hr ?hp (fun _ hk=>hk) trivial (Below.refl _ _) (Nat.le_refl _) (by simp) ?_;(case hd=>rfl);(case hg=>rfl);(case hr=>first|(go_simp;done)|(go_simp;rfl));(case hp=>exact (Reps.c5 (show Kd.M k42 _ _ _ (⟨4,0,0,0,(⟨#[]⟩:ByteArray)⟩:S42) [.int .i64 4,.int .i64 0,.int .i64 0,.int .i64 0,.string (⟨#[]⟩:ByteArray)] from (k42_mkM _ _ _ (⟨4,0,0,0,(⟨#[]⟩:ByteArray)⟩:S42) )) (Reps.none _ _)));intro v2 w99 ho100 hb hg_ hnew_;clear hg_ hnew_;(first|rw [← Ny1.out] at ho100|(simp only [Int.reduceToNat] at ho100;rw [← Ny1.out] at ho100));have n0_:=Aside0.mk (Kd.R_lower ho100 (below_size (by repeat (first|(with_reducible first|exact HB.out|apply below_alloc|apply pw_below_drewN|apply below_drew1)|exact HB.out))));have n1_:=Aside0.mk (below_step (by repeat (first|(with_reducible first|exact HB.out|apply below_alloc|apply pw_below_drewN|apply below_drew1)|exact HB.out)) hb);clear HB;have HO3:=n0_;have HB:=n1_;clear n0_ n1_;clear hb ho100;obtain ⟨Ao101,co101,eo101⟩:=Kd.R_slice HO3.out;subst eo101)|((with_reducible refine gate_callee (f:=17) rfl ?_);refine goesL_ (some 12) rfl rfl Tryz.func17 (by kernel_rfl) rfl #[.slice Ao101 y1.length co101] rfl (by (try simp only [List.map_toArray,List.map_cons,List.map_nil]);first|done|rfl|(simp only [List.length_drop,List.length_take];rfl)) ?_;(with_reducible refine (code_Code.calls k _ _ y1 t4 t5 _ ?side1 ?side2 A1.out).mono ?_);(case side1=>repeat (first|exact (Kd.R_reads' HO3.out).2.2|(with_reducible refine Kd.C_alloc ?_ _)|(with_reducible refine Kd.C_drewN ?_ _)|(with_reducible refine Kd.C_drew ?_)));(case side2=>exact (Kd.R_reads' HO3.out).2.1);rintro e w102 ⟨rfl,hb⟩;refine ⟨_,rfl,?_⟩;have n0_:=Aside0.mk (Kd.R_below (by (with_reducible repeat (first|apply Kd.R_alloc|apply Kd.R_drewN|apply Kd.R_drew));exact HO3.out) hb);have n1_:=Aside0.mk (below_step (by repeat (first|(with_reducible first|exact HB.out|apply below_alloc|apply pw_below_drewN|apply below_drew1)|exact HB.out)) hb);clear HO3;clear HB;have HO3:=n0_;have HB:=n1_;clear n0_ n1_;(try clear hb);(try clear hb2);(try clear hk);(try clear hi))|((with_reducible refine gate_callee (f:=8) rfl ?_);refine goesL_ (some 16) rfl rfl Tryz.func8 (by kernel_rfl) rfl #[.string (⟨#[49,49,49,48,49,48,49,48,49,48,48,49,48,48,48]⟩:ByteArray)] rfl (by (try simp only [List.map_toArray,List.map_cons,List.map_nil]);first|done|rfl) ?_;(with_reducible refine (code_Decode.calls k (⟨#[49,49,49,48,49,48,49,48,49,48,48,49,48,48,48]⟩:ByteArray) t6 t7 _ A2.out).mono ?_);rintro e w103 ⟨v8,rfl,ho0,hb⟩;refine ⟨_,rfl,?_⟩;have n0_:=Aside0.mk (Kd.R_elder' (by (with_reducible repeat (first|apply Kd.R_alloc|apply Kd.R_drewN|apply Kd.R_drew));exact HO3.out) (Kd.R_base ho0) hb);have n1_:=Aside0.mk (Kd.R_lower (Kd.R_new' ho0 (Kd.R_lt (by (with_reducible repeat (first|apply Kd.R_alloc|apply Kd.R_drewN|apply Kd.R_drew));exact HO3.out))) (below_size (by repeat (first|(with_reducible first|exact HB.out|apply below_alloc|apply pw_below_drewN|apply below_drew1)|exact HB.out))));have n2_:=Aside0.mk (below_step (by repeat (first|(with_reducible first|exact HB.out|apply below_alloc|apply pw_below_drewN|apply below_drew1)|exact HB.out)) hb);clear HO3;clear HB;have HO3:=n0_;have HO9:=n1_;have HB:=n2_;clear n0_ n1_ n2_;(try clear hb);(try clear hb2);(try clear hk);(try clear hi);(try clear ho0))|((with_reducible refine gate_callee (f:=13) rfl ?_);refine goesL_ (some 20) rfl rfl Tryz.func13 (by kernel_rfl) rfl #[.string (⟨#[115,101,116,32,49,32,49,48,48,59,32,99,111,110,115,32,48,32,49,32,48,59,32,106,117,109,112,32,48,32,45,50]⟩:ByteArray)] rfl (by (try simp only [List.map_toArray,List.map_cons,List.map_nil]);first|done|rfl) ?_;(with_reducible refine (code_Parse.calls k (⟨#[115,101,116,32,49,32,49,48,48,59,32,99,111,110,115,32,48,32,49,32,48,59,32,106,117,109,112,32,48,32,45,50]⟩:ByteArray) t10 t11 _ ?side1 A3.out).mono ?_);(case side1=>first|(refine LaidW.below HLD.out ?_;with_reducible exact HB.out)|(refine LaidW.below HLD.out ?_;with_reducible apply pw_below_drewN;with_reducible exact HB.out)|(refine LaidW.below HLD.out ?_;with_reducible apply below_alloc;with_reducible exact HB.out)|(refine LaidW.below HLD.out ?_;repeat (first|(with_reducible first|exact HB.out|apply below_alloc|apply pw_below_drewN|apply below_drew1)|exact HB.out);done)|exact HLD.out|(repeat (first|exact HLD.out|(with_reducible refine LaidW.drewN ?_ _)|(with_reducible refine LaidW.drew ?_)|(with_reducible refine LaidW.alloc ?_ _))));rintro e w104 ⟨v12,rfl,ho0,hb⟩;refine ⟨_,rfl,?_⟩;have n0_:=Aside0.mk (Kd.R_elder' (by (with_reducible repeat (first|apply Kd.R_alloc|apply Kd.R_drewN|apply Kd.R_drew));exact HO3.out) (Kd.R_base ho0) hb);have n1_:=Aside0.mk (Kd.R_elder' (by (with_reducible repeat (first|apply Kd.R_alloc|apply Kd.R_drewN|apply Kd.R_drew));exact HO9.out) (Kd.R_base ho0) hb);have n2_:=Aside0.mk (Kd.R_lower (Kd.R_new' (Kd.R_new' ho0 (Kd.R_lt (by (with_reducible repeat (first|apply Kd.R_alloc|apply Kd.R_drewN|apply Kd.R_drew));exact HO3.out))) (Kd.R_lt (by (with_reducible repeat (first|apply Kd.R_alloc|apply Kd.R_drewN|apply Kd.R_drew));exact HO9.out))) (below_size (by repeat (first|(with_reducible first|exact HB.out|apply below_alloc|apply pw_below_drewN|apply below_drew1)|exact HB.out))));have n3_:=Aside0.mk (below_step (by repeat (first|(with_reducible first|exact HB.out|apply below_alloc|apply pw_below_drewN|apply below_drew1)|exact HB.out)) hb);clear HO3;clear HO9;clear HB;have HO3:=n0_;have HO9:=n1_;have HO13:=n2_;have HB:=n3_;clear n0_ n1_ n2_ n3_;(try clear hb);(try clear hb2);(try clear hk);(try clear hi);(try clear ho0)))
    go_ret
    exact ⟨by first|rfl|(simp [errW_none,errW_some]<;>rfl)|(simp [*,errW_none,errW_some]<;>rfl),by repeat (first|(with_reducible first|exact HB.out|apply below_alloc|apply pw_below_drewN|apply below_drew1)|exact HB.out)⟩
  ·rw [if_neg c5] at H
   have c5b0:(t4.toList == ([49,49,49,48,49,48,49,48,49,48,48,49,48,48,48]:List UInt8))=false:=beq_eq_false_iff_ne.mpr c5
   have c5b1:(t4.toList != ([49,49,49,48,49,48,49,48,49,48,48,49,48,48,48]:List UInt8))=true:=bne_iff_ne.mpr c5
   obtain rfl:=Option.some.inj H
   go_enter Tryz.func10,Tryz.ntmps10
   go_wp2_with (first|((with_reducible refine gate_dst (N:=9) rfl ?_);(try (refine gate_guard (by rfl) ?_;dsimp only));refine Kd.R_lit k42 _ 42 ?hg (N:=9) ?hd (xs:=([(⟨4,0,0,0,(⟨#[]⟩:ByteArray)⟩:S42)]:List (S42))) (inner:=[.int .i64 4,.int .i64 0,.int .i64 0,.int .i64 0,.string (⟨#[]⟩:ByteArray)]) (ok:=fun _=>True) (okp:=fun _=>True) ?hr ?hp (fun _ hk=>hk) trivial (Below.refl _ _) (Nat.le_refl _) (by simp) ?_;(case hd=>rfl);(case hg=>rfl);(case hr=>first|(go_simp;done)|(go_simp;rfl));(case hp=>exact (Reps.c5 (show Kd.M k42 _ _ _ (⟨4,0,0,0,(⟨#[]⟩:ByteArray)⟩:S42) [.int .i64 4,.int .i64 0,.int .i64 0,.int .i64 0,.string (⟨#[]⟩:ByteArray)] from (k42_mkM _ _ _ (⟨4,0,0,0,(⟨#[]⟩:ByteArray)⟩:S42) )) (Reps.none _ _)));intro v2 w105 ho106 hb hg_ hnew_;clear hg_ hnew_;(first|rw [← Ny1.out] at ho106|(simp only [Int.reduceToNat] at ho106;rw [← Ny1.out] at ho106));have n0_:=Aside0.mk (Kd.R_lower ho106 (below_size (by repeat (first|(with_reducible first|exact HB.out|apply below_alloc|apply pw_below_drewN|apply below_drew1)|exact HB.out))));have n1_:=Aside0.mk (below_step (by repeat (first|(with_reducible first|exact HB.out|apply below_alloc|apply pw_below_drewN|apply below_drew1)|exact HB.out)) hb);clear HB;have HO3:=n0_;have HB:=n1_;clear n0_ n1_;clear hb ho106;obtain ⟨Ao107,co107,eo107⟩:=Kd.R_slice HO3.out;subst eo107)|((with_reducible refine gate_callee (f:=17) rfl ?_);refine goesL_ (some 12) rfl rfl Tryz.func17 (by kernel_rfl) rfl #[.slice Ao107 y1.length co107] rfl (by (try simp only [List.map_toArray,List.map_cons,List.map_nil]);first|done|rfl|(simp only [List.length_drop,List.length_take];rfl)) ?_;(with_reducible refine (code_Code.calls k _ _ y1 t4 t5 _ ?side1 ?side2 A1.out).mono ?_);(case side1=>repeat (first|exact (Kd.R_reads' HO3.out).2.2|(with_reducible refine Kd.C_alloc ?_ _)|(with_reducible refine Kd.C_drewN ?_ _)|(with_reducible refine Kd.C_drew ?_)));(case side2=>exact (Kd.R_reads' HO3.out).2.1);rintro e w108 ⟨rfl,hb⟩;refine ⟨_,rfl,?_⟩;have n0_:=Aside0.mk (Kd.R_below (by (with_reducible repeat (first|apply Kd.R_alloc|apply Kd.R_drewN|apply Kd.R_drew));exact HO3.out) hb);have n1_:=Aside0.mk (below_step (by repeat (first|(with_reducible first|exact HB.out|apply below_alloc|apply pw_below_drewN|apply below_drew1)|exact HB.out)) hb);clear HO3;clear HB;have HO3:=n0_;have HB:=n1_;clear n0_ n1_;(try clear hb);(try clear hb2);(try clear hk);(try clear hi))|((with_reducible refine gate_callee (f:=8) rfl ?_);refine goesL_ (some 16) rfl rfl Tryz.func8 (by kernel_rfl) rfl #[.string (⟨#[49,49,49,48,49,48,49,48,49,48,48,49,48,48,48]⟩:ByteArray)] rfl (by (try simp only [List.map_toArray,List.map_cons,List.map_nil]);first|done|rfl) ?_;(with_reducible refine (code_Decode.calls k (⟨#[49,49,49,48,49,48,49,48,49,48,48,49,48,48,48]⟩:ByteArray) t6 t7 _ A2.out).mono ?_);rintro e w109 ⟨v8,rfl,ho0,hb⟩;refine ⟨_,rfl,?_⟩;have n0_:=Aside0.mk (Kd.R_elder' (by (with_reducible repeat (first|apply Kd.R_alloc|apply Kd.R_drewN|apply Kd.R_drew));exact HO3.out) (Kd.R_base ho0) hb);have n1_:=Aside0.mk (Kd.R_lower (Kd.R_new' ho0 (Kd.R_lt (by (with_reducible repeat (first|apply Kd.R_alloc|apply Kd.R_drewN|apply Kd.R_drew));exact HO3.out))) (below_size (by repeat (first|(with_reducible first|exact HB.out|apply below_alloc|apply pw_below_drewN|apply below_drew1)|exact HB.out))));have n2_:=Aside0.mk (below_step (by repeat (first|(with_reducible first|exact HB.out|apply below_alloc|apply pw_below_drewN|apply below_drew1)|exact HB.out)) hb);clear HO3;clear HB;have HO3:=n0_;have HO9:=n1_;have HB:=n2_;clear n0_ n1_ n2_;(try clear hb);(try clear hb2);(try clear hk);(try clear hi);(try clear ho0))|((with_reducible refine gate_callee (f:=13) rfl ?_);refine goesL_ (some 20) rfl rfl Tryz.func13 (by kernel_rfl) rfl #[.string (⟨#[115,101,116,32,49,32,49,48,48,59,32,99,111,110,115,32,48,32,49,32,48,59,32,106,117,109,112,32,48,32,45,50]⟩:ByteArray)] rfl (by (try simp only [List.map_toArray,List.map_cons,List.map_nil]);first|done|rfl) ?_;(with_reducible refine (code_Parse.calls k (⟨#[115,101,116,32,49,32,49,48,48,59,32,99,111,110,115,32,48,32,49,32,48,59,32,106,117,109,112,32,48,32,45,50]⟩:ByteArray) t10 t11 _ ?side1 A3.out).mono ?_);(case side1=>first|(refine LaidW.below HLD.out ?_;with_reducible exact HB.out)|(refine LaidW.below HLD.out ?_;with_reducible apply pw_below_drewN;with_reducible exact HB.out)|(refine LaidW.below HLD.out ?_;with_reducible apply below_alloc;with_reducible exact HB.out)|(refine LaidW.below HLD.out ?_;repeat (first|(with_reducible first|exact HB.out|apply below_alloc|apply pw_below_drewN|apply below_drew1)|exact HB.out);done)|exact HLD.out|(repeat (first|exact HLD.out|(with_reducible refine LaidW.drewN ?_ _)|(with_reducible refine LaidW.drew ?_)|(with_reducible refine LaidW.alloc ?_ _))));rintro e w110 ⟨v12,rfl,ho0,hb⟩;refine ⟨_,rfl,?_⟩;have n0_:=Aside0.mk (Kd.R_elder' (by (with_reducible repeat (first|apply Kd.R_alloc|apply Kd.R_drewN|apply Kd.R_drew));exact HO3.out) (Kd.R_base ho0) hb);have n1_:=Aside0.mk (Kd.R_elder' (by (with_reducible repeat (first|apply Kd.R_alloc|apply Kd.R_drewN|apply Kd.R_drew));exact HO9.out) (Kd.R_base ho0) hb);have n2_:=Aside0.mk (Kd.R_lower (Kd.R_new' (Kd.R_new' ho0 (Kd.R_lt (by (with_reducible repeat (first|apply Kd.R_alloc|apply Kd.R_drewN|apply Kd.R_drew));exact HO3.out))) (Kd.R_lt (by (with_reducible repeat (first|apply Kd.R_alloc|apply Kd.R_drewN|apply Kd.R_drew));exact HO9.out))) (below_size (by repeat (first|(with_reducible first|exact HB.out|apply below_alloc|apply pw_below_drewN|apply below_drew1)|exact HB.out))));have n3_:=Aside0.mk (below_step (by repeat (first|(with_reducible first|exact HB.out|apply below_alloc|apply pw_below_drewN|apply below_drew1)|exact HB.out)) hb);clear HO3;clear HO9;clear HB;have HO3:=n0_;have HO9:=n1_;have HO13:=n2_;have HB:=n3_;clear n0_ n1_ n2_ n3_;(try clear hb);(try clear hb2);(try clear hk);(try clear hi);(try clear ho0)))
   go_ret
   exact ⟨by first|rfl|(simp [errW_none,errW_some]<;>rfl)|(simp [*,errW_none,errW_some]<;>rfl),by repeat (first|(with_reducible first|exact HB.out|apply below_alloc|apply pw_below_drewN|apply below_drew1)|exact HB.out)⟩
 ·rw [if_neg c4] at H
  have c4b0:(t5 == 0)=false:=beq_eq_false_iff_ne.mpr c4
  have c4b1:(t5 != 0)=true:=bne_iff_ne.mpr c4
  obtain rfl:=Option.some.inj H
  go_enter Tryz.func10,Tryz.ntmps10
  go_wp2_with (first|((with_reducible refine gate_dst (N:=9) rfl ?_);(try (refine gate_guard (by rfl) ?_;dsimp only));refine Kd.R_lit k42 _ 42 ?hg (N:=9) ?hd (xs:=([(⟨4,0,0,0,(⟨#[]⟩:ByteArray)⟩:S42)]:List (S42))) (inner:=[.int .i64 4,.int .i64 0,.int .i64 0,.int .i64 0,.string (⟨#[]⟩:ByteArray)]) (ok:=fun _=>True) (okp:=fun _=>True) ?hr ?hp (fun _ hk=>hk) trivial (Below.refl _ _) (Nat.le_refl _) (by simp) ?_;(case hd=>rfl);(case hg=>rfl);(case hr=>first|(go_simp;done)|(go_simp;rfl));(case hp=>exact (Reps.c5 (show Kd.M k42 _ _ _ (⟨4,0,0,0,(⟨#[]⟩:ByteArray)⟩:S42) [.int .i64 4,.int .i64 0,.int .i64 0,.int .i64 0,.string (⟨#[]⟩:ByteArray)] from (k42_mkM _ _ _ (⟨4,0,0,0,(⟨#[]⟩:ByteArray)⟩:S42) )) (Reps.none _ _)));intro v2 w111 ho112 hb hg_ hnew_;clear hg_ hnew_;(first|rw [← Ny1.out] at ho112|(simp only [Int.reduceToNat] at ho112;rw [← Ny1.out] at ho112));have n0_:=Aside0.mk (Kd.R_lower ho112 (below_size (by repeat (first|(with_reducible first|exact HB.out|apply below_alloc|apply pw_below_drewN|apply below_drew1)|exact HB.out))));have n1_:=Aside0.mk (below_step (by repeat (first|(with_reducible first|exact HB.out|apply below_alloc|apply pw_below_drewN|apply below_drew1)|exact HB.out)) hb);clear HB;have HO3:=n0_;have HB:=n1_;clear n0_ n1_;clear hb ho112;obtain ⟨Ao113,co113,eo113⟩:=Kd.R_slice HO3.out;subst eo113)|((with_reducible refine gate_callee (f:=17) rfl ?_);refine goesL_ (some 12) rfl rfl Tryz.func17 (by kernel_rfl) rfl #[.slice Ao113 y1.length co113] rfl (by (try simp only [List.map_toArray,List.map_cons,List.map_nil]);first|done|rfl|(simp only [List.length_drop,List.length_take];rfl)) ?_;(with_reducible refine (code_Code.calls k _ _ y1 t4 t5 _ ?side1 ?side2 A1.out).mono ?_);(case side1=>repeat (first|exact (Kd.R_reads' HO3.out).2.2|(with_reducible refine Kd.C_alloc ?_ _)|(with_reducible refine Kd.C_drewN ?_ _)|(with_reducible refine Kd.C_drew ?_)));(case side2=>exact (Kd.R_reads' HO3.out).2.1);rintro e w114 ⟨rfl,hb⟩;refine ⟨_,rfl,?_⟩;have n0_:=Aside0.mk (Kd.R_below (by (with_reducible repeat (first|apply Kd.R_alloc|apply Kd.R_drewN|apply Kd.R_drew));exact HO3.out) hb);have n1_:=Aside0.mk (below_step (by repeat (first|(with_reducible first|exact HB.out|apply below_alloc|apply pw_below_drewN|apply below_drew1)|exact HB.out)) hb);clear HO3;clear HB;have HO3:=n0_;have HB:=n1_;clear n0_ n1_;(try clear hb);(try clear hb2);(try clear hk);(try clear hi))|((with_reducible refine gate_callee (f:=8) rfl ?_);refine goesL_ (some 16) rfl rfl Tryz.func8 (by kernel_rfl) rfl #[.string (⟨#[49,49,49,48,49,48,49,48,49,48,48,49,48,48,48]⟩:ByteArray)] rfl (by (try simp only [List.map_toArray,List.map_cons,List.map_nil]);first|done|rfl) ?_;(with_reducible refine (code_Decode.calls k (⟨#[49,49,49,48,49,48,49,48,49,48,48,49,48,48,48]⟩:ByteArray) t6 t7 _ A2.out).mono ?_);rintro e w115 ⟨v8,rfl,ho0,hb⟩;refine ⟨_,rfl,?_⟩;have n0_:=Aside0.mk (Kd.R_elder' (by (with_reducible repeat (first|apply Kd.R_alloc|apply Kd.R_drewN|apply Kd.R_drew));exact HO3.out) (Kd.R_base ho0) hb);have n1_:=Aside0.mk (Kd.R_lower (Kd.R_new' ho0 (Kd.R_lt (by (with_reducible repeat (first|apply Kd.R_alloc|apply Kd.R_drewN|apply Kd.R_drew));exact HO3.out))) (below_size (by repeat (first|(with_reducible first|exact HB.out|apply below_alloc|apply pw_below_drewN|apply below_drew1)|exact HB.out))));have n2_:=Aside0.mk (below_step (by repeat (first|(with_reducible first|exact HB.out|apply below_alloc|apply pw_below_drewN|apply below_drew1)|exact HB.out)) hb);clear HO3;clear HB;have HO3:=n0_;have HO9:=n1_;have HB:=n2_;clear n0_ n1_ n2_;(try clear hb);(try clear hb2);(try clear hk);(try clear hi);(try clear ho0))|((with_reducible refine gate_callee (f:=13) rfl ?_);refine goesL_ (some 20) rfl rfl Tryz.func13 (by kernel_rfl) rfl #[.string (⟨#[115,101,116,32,49,32,49,48,48,59,32,99,111,110,115,32,48,32,49,32,48,59,32,106,117,109,112,32,48,32,45,50]⟩:ByteArray)] rfl (by (try simp only [List.map_toArray,List.map_cons,List.map_nil]);first|done|rfl) ?_;(with_reducible refine (code_Parse.calls k (⟨#[115,101,116,32,49,32,49,48,48,59,32,99,111,110,115,32,48,32,49,32,48,59,32,106,117,109,112,32,48,32,45,50]⟩:ByteArray) t10 t11 _ ?side1 A3.out).mono ?_);(case side1=>first|(refine LaidW.below HLD.out ?_;with_reducible exact HB.out)|(refine LaidW.below HLD.out ?_;with_reducible apply pw_below_drewN;with_reducible exact HB.out)|(refine LaidW.below HLD.out ?_;with_reducible apply below_alloc;with_reducible exact HB.out)|(refine LaidW.below HLD.out ?_;repeat (first|(with_reducible first|exact HB.out|apply below_alloc|apply pw_below_drewN|apply below_drew1)|exact HB.out);done)|exact HLD.out|(repeat (first|exact HLD.out|(with_reducible refine LaidW.drewN ?_ _)|(with_reducible refine LaidW.drew ?_)|(with_reducible refine LaidW.alloc ?_ _))));rintro e w116 ⟨v12,rfl,ho0,hb⟩;refine ⟨_,rfl,?_⟩;have n0_:=Aside0.mk (Kd.R_elder' (by (with_reducible repeat (first|apply Kd.R_alloc|apply Kd.R_drewN|apply Kd.R_drew));exact HO3.out) (Kd.R_base ho0) hb);have n1_:=Aside0.mk (Kd.R_elder' (by (with_reducible repeat (first|apply Kd.R_alloc|apply Kd.R_drewN|apply Kd.R_drew));exact HO9.out) (Kd.R_base ho0) hb);have n2_:=Aside0.mk (Kd.R_lower (Kd.R_new' (Kd.R_new' ho0 (Kd.R_lt (by (with_reducible repeat (first|apply Kd.R_alloc|apply Kd.R_drewN|apply Kd.R_drew));exact HO3.out))) (Kd.R_lt (by (with_reducible repeat (first|apply Kd.R_alloc|apply Kd.R_drewN|apply Kd.R_drew));exact HO9.out))) (below_size (by repeat (first|(with_reducible first|exact HB.out|apply below_alloc|apply pw_below_drewN|apply below_drew1)|exact HB.out))));have n3_:=Aside0.mk (below_step (by repeat (first|(with_reducible first|exact HB.out|apply below_alloc|apply pw_below_drewN|apply below_drew1)|exact HB.out)) hb);clear HO3;clear HO9;clear HB;have HO3:=n0_;have HO9:=n1_;have HO13:=n2_;have HB:=n3_;clear n0_ n1_ n2_ n3_;(try clear hb);(try clear hb2);(try clear hk);(try clear hi);(try clear ho0)))
  go_ret
  exact ⟨by first|rfl|(simp [errW_none,errW_some]<;>rfl)|(simp [*,errW_none,errW_some]<;>rfl),by repeat (first|(with_reducible first|exact HB.out|apply below_alloc|apply pw_below_drewN|apply below_drew1)|exact HB.out)⟩
end
end Go.Proofs.YtfckjfoalpkpjaaGreatDoor.C
section
namespace Go.Proofs.YtfckjfoalpkpjaaGreatDoor.Plain
open Go.Proofs.YtfckjfoalpkpjaaGreatDoor.C
open Go.RowKit Go.Proofs.YtfckjfoalpkpjaaGreatDoorW.PrintWords Go.Proofs.YtfckjfoalpkpjaaGreatDoorW.PrintLast Go.Proofs.YtfckjfoalpkpjaaGreatDoorW.PrintMore
theorem items_inj : ∀ (p q:List Ins),(∀ x ∈ p,Nice x∧(item x).length≤2000000)→(∀ x ∈ q,Nice x)→p.map item=q.map item→p=q
  | [],[],_,_,_=>rfl
  | [],_ :: _,_,_,h=>by simp at h
  | _ :: _,[],_,_,h=>by simp at h
  | x :: p,y :: q,hp,hq,h=>by
    simp only [List.map_cons,List.cons.injEq] at h
    rw [item_inj (hp x (by simp)).1 (hq y (by simp)) (hp x (by simp)).2 h.1,items_inj p q (fun z hz=>hp z (List.mem_cons_of_mem _ hz)) (fun z hz=>hq z (List.mem_cons_of_mem _ hz)) h.2]
theorem lst_part : ∀ (l:List (List UInt8)),∀ x ∈ l,x.length≤(lst l).length
  | y :: l,x,h=>by
    rw [lst,List.length_cons,List.length_append]
    rcases List.mem_cons.1 h with rfl|h
    · omega
    · have:=lst_part l x h
      omega
theorem codeL_inj {p q:List Ins} (hp : ∀ x ∈ p,Nice x) (hq : ∀ x ∈ q,Nice x) (hz:(codeL p).length≤2000000) (h:codeL p=codeL q):p=q:=by
  refine items_inj p q (fun x hx=>⟨hp x hx,?_⟩) hq (lst_inj _ _ ?_ ?_ h)
  · have:=lst_part (p.map item) (item x) (List.mem_map.2 ⟨x,hx,rfl⟩)
    have h2:(codeL p).length=(lst (p.map item)).length:=rfl
    omega
  · intro s hs
    obtain ⟨x,hx,rfl⟩:=List.mem_map.1 hs
    exact isT_item (hp x hx)
  · intro s hs
    obtain ⟨x,hx,rfl⟩:=List.mem_map.1 hs
    exact isT_item (hq x hx)
theorem decode_yes {p:List Ins} {s:ByteArray} {k:Nat} (hk:2000010≤k) (h:OKP p) (hz:s.size≤2000000) (e:bl s=codeL p):code_Decode.f k s=some (p,0):=by
  rcases decode_tells s k hk with ⟨q,eq,hq,hc,_⟩|⟨_,hno⟩|⟨_,_,hno⟩
  · rw [eq,codeL_inj (okp_nice h) (okp_nice hq) (by rw [← e,bl_len];exact hz) (e.symm.trans hc)]
  · exact absurd ⟨hz,by rw [e];exact isT_codeL (okp_nice h)⟩ hno
  · exact absurd e (hno p h)
theorem splits {c:UInt8} {t:List UInt8} {l m:List (List UInt8)} (hl:l ≠ []) (hm:m ≠ []) (h1 : ∀ x ∈ l,c ∉ x) (h2 : ∀ x ∈ m,c ∉ x) (h:joinS (c :: t) l=joinS (c :: t) m):l=m:=by
  have a:=split_joinS c t l hl h1
  have b:=split_joinS c t m hm h2
  rw [h,b] at a
  exact a.symm
theorem itoa_inj {n m:Int} (hn:In64 n) (hm:In64 m) (h:Lib.itoa n=Lib.itoa m):n=m:=by
  have a:=atoi_itoa n hn.1 hn.2
  have b:=atoi_itoa m hm.1 hm.2
  rw [h,b] at a
  injection a with a
  exact a.symm
theorem words_inj {x y:Ins} (hx:TNice x) (hy:TNice y) (h:wordsOf x=wordsOf y):x=y:=by
  have h0:x.f0=y.f0:=by
    unfold wordsOf at h
    simp only [List.cons.injEq] at h
    exact name_inj _ _ (op_range hx).1 (op_range hx).2 (op_range hy).1 (op_range hy).2 h.1
  obtain ⟨a1,hx⟩:=hx
  obtain ⟨b1,hy⟩:=hy
  rcases hx with ⟨x0,x2,x3⟩|⟨x0,x2,x3,x4⟩|⟨x0,x2,x3,x4⟩
  · rcases hy with ⟨y0,y2,y3⟩|hy|hy
    · rw [words_set x0,words_set y0] at h
      simp only [List.cons.injEq,and_true] at h
      exact ins_eq h0 (itoa_inj a1 b1 h.2.1) (x2.trans y2.symm) (x3.trans y3.symm) h.2.2
    · omega
    · omega
  · rcases hy with hy|⟨y0,y2,y3,y4⟩|hy
    · omega
    · rw [words_cons x0,words_cons y0] at h
      simp only [List.cons.injEq,and_true] at h
      exact ins_eq h0 (itoa_inj a1 b1 h.2.1) (itoa_inj x2 y2 h.2.2.1) (itoa_inj x3 y3 h.2.2.2) (x4.trans y4.symm)
    · omega
  · rcases hy with hy|hy|⟨y0,y2,y3,y4⟩
    · omega
    · omega
    · rw [words_two (by omega) (by omega),words_two (by omega) (by omega)] at h
      simp only [List.cons.injEq,and_true] at h
      exact ins_eq h0 (itoa_inj a1 b1 h.2.1) (itoa_inj x2 y2 h.2.2) (x3.trans y3.symm) (x4.trans y4.symm)
theorem textOf_inj {x y:Ins} (hx:Nice x) (hy:Nice y) (h:textOf x=textOf y):x=y :=
  words_inj (tnice_of_nice hx) (tnice_of_nice hy) (splits (t:=[]) (words_ne x) (words_ne y) (words_no (tnice_of_nice hx) (.inl rfl) (nice_tree hx).1) (words_no (tnice_of_nice hy) (.inl rfl) (nice_tree hy).1) h)
theorem textL_ne {x:Ins} {p:List Ins}:textL (x :: p) ≠ []:=by
  have:=textOf_ne x
  unfold textL
  cases p with
  | nil=>simpa [joinS] using this
  | cons y p =>
    rw [List.map_cons,joinS_cons _ _ _ (by simp)]
    simp
theorem textL_inj : ∀ {p q:List Ins},(∀ x ∈ p,Nice x)→(∀ x ∈ q,Nice x)→textL p=textL q→p=q:=by
  intro p q hp hq h
  cases p with
  | nil =>
    cases q with
    | nil=>rfl
    | cons y q=>exact absurd h.symm textL_ne
  | cons x p =>
    cases q with
    | nil=>exact absurd h textL_ne
    | cons y q =>
      have hno : ∀ (r:List Ins),(∀ z ∈ r,Nice z) → ∀ w ∈ r.map textOf,(59:UInt8) ∉ w:=by
        intro r hr w hw
        obtain ⟨z,hz,rfl⟩:=List.mem_map.1 hw
        exact textOf_no (tnice_of_nice (hr z hz)) (nice_tree (hr z hz)).2
      have:=splits (t:=[32]) (by simp) (by simp) (hno _ hp) (hno _ hq) h
      generalize x :: p=p at *
      generalize y :: q=q at *
      clear h hno;induction p generalizing q with
      | nil=>simpa using this.symm
      | cons x p ih =>
        cases q with
        | nil=>simp at this
        | cons y q =>
          simp only [List.map_cons,List.cons.injEq] at this
          rw [textOf_inj (hp x (by simp)) (hq y (by simp)) this.1,ih (fun z hz=>hp z (List.mem_cons_of_mem _ hz)) q (fun z hz=>hq z (List.mem_cons_of_mem _ hz)) this.2]
theorem parse_yes {p:List Ins} {s:ByteArray} {k:Nat} (hk:4010≤k) (h:OKP p) (hz:s.size≤4000000) (e:bl s=textL p):code_Parse.f k s=some (p,0):=by
  rcases parse_tells s k hk with ⟨q,eq,hq,hc,_⟩|⟨_,hno⟩
  · rw [eq,textL_inj (okp_nice h) (okp_nice hq) (e.symm.trans hc)]
  · exact absurd e (hno p h hz)
theorem diff_tells (x y:Ins):((!(x.f0 == y.f0) || (!(x.f1 == y.f1) || (!(x.f2 == y.f2) || (!(x.f3 == y.f3) || (!(x.f4.toList == y.f4.toList))))))=true)↔x ≠ y:=by
  rw [toL,toL]
  constructor
  · intro h e
    subst e;simp at h
  · intro h
    simp only [Bool.or_eq_true,Bool.not_eq_true',beq_eq_false_iff_ne]
    apply Classical.byContradiction
    intro hn
    simp only [not_or,Classical.not_not] at hn
    exact h (ins_eq hn.1 hn.2.1 hn.2.2.1 hn.2.2.2.1 hn.2.2.2.2)
theorem same_l (a b:List Ins) (hab:a.length=b.length) (ha:a.length≤2932031007402) : ∀ (d k i:Nat),a.length - i=d→i≤a.length→d<k →
    ∃ v,narcissusref02_Same.l0 k a b (i:Int)=some v∧(v=true↔a.drop i=b.drop i)
  | d,k,i,hd,hi,hk=>by
    obtain ⟨k,rfl⟩ : ∃ m,k=m+1:=⟨k - 1,by omega⟩
    by_cases hlt:i<a.length
    · have hltb:i<b.length:=by omega
      have hda:a.drop i=a[i] :: a.drop (i+1):=List.drop_eq_getElem_cons hlt
      have hdb:b.drop i=b[i] :: b.drop (i+1):=List.drop_eq_getElem_cons hltb
      rw [narcissusref02_Same.l0,if_pos (by omega),if_pos (by omega),if_pos (by omega),rd_at a i hlt,rd_at b i hltb,hda,hdb]
      by_cases he:a[i]=b[i]
      · rw [if_neg (fun h=>(diff_tells _ _).1 h he),wrap_small (by omega) (by omega),show (i:Int)+1=((i+1:Nat):Int) from rfl]
        obtain ⟨v,e,hv⟩:=same_l a b hab ha (a.length - (i+1)) k (i+1) rfl (by omega) (by omega)
        refine ⟨v,e,hv.trans ?_⟩
        rw [List.cons.injEq]
        exact ⟨fun h=>⟨he,h⟩,fun h=>h.2⟩
      · rw [if_pos ((diff_tells _ _).2 he)]
        refine ⟨false,rfl,?_⟩
        rw [List.cons.injEq]
        exact ⟨fun h=>(by cases h),fun h=>absurd h.1 he⟩
    · rw [narcissusref02_Same.l0,if_neg (by omega),List.drop_eq_nil_of_le (by omega),List.drop_eq_nil_of_le (by omega)]
      exact ⟨true,rfl,by simp⟩
  termination_by d=>d
theorem same_tells (a b:List Ins) (ha:a.length≤2932031007402) (k:Nat) (hk:a.length<k) : ∃ v,narcissusref02_Same.f k a b=some v∧(v=true↔a=b):=by
  unfold narcissusref02_Same.f
  by_cases h:(a.length:Int)=(b.length:Int)
  · rw [if_pos h]
    have:=same_l a b (by omega) ha a.length k 0 rfl (by omega) hk
    simpa using this
  · rw [if_neg h]
    refine ⟨false,rfl,?_⟩
    exact ⟨fun h=>(by cases h),fun e=>absurd (by rw [e]) h⟩
theorem same_yes (a:List Ins) (ha:a.length≤2932031007402) (k:Nat) (hk:a.length<k):narcissusref02_Same.f k a a=some true:=by
  obtain ⟨v,e,hv⟩:=same_tells a a ha k hk
  rw [e,hv.2 rfl]
theorem okp_one {x:Ins} (hz:x.f4.size≤2000000) (h:Right x 0 1):OKP [x]:=by
  refine ⟨by simp,by simpa using hz,fun j hj=>?_⟩
  have:j=0:=by simpa using hj
  subst this;exact h
def exTail:List Ins:=[⟨4,0,0,0,⟨#[]⟩⟩]
def exThree:List Ins:=[⟨0,1,0,0,⟨#[49,48,48]⟩⟩,⟨2,0,1,0,⟨#[]⟩⟩,⟨5,0,-2,0,⟨#[]⟩⟩]
theorem okp_tail:OKP exTail:=okp_one (by decide) (.inr (.inl ⟨.inr (.inr rfl),⟨by decide,by decide⟩,⟨by decide,by decide⟩,rfl,rfl⟩))
theorem okp_three:OKP exThree:=by
  refine ⟨by decide,by decide,fun j hj=>?_⟩
  have:j<3:=hj
  rcases (by omega:j=0 ∨ j=1 ∨ j=2) with rfl|rfl|rfl
  · exact .inl ⟨rfl,⟨by decide,by decide⟩,rfl,rfl,by decide,isT_100⟩
  · exact .inr (.inr (.inl ⟨rfl,⟨by decide,by decide⟩,⟨by decide,by decide⟩,⟨by decide,by decide⟩,rfl⟩))
  · exact .inr (.inr (.inr ⟨rfl,⟨by decide,by decide⟩,by decide,by decide,rfl,rfl⟩))
theorem itoa_digit {n:Nat} (h:n<10):Lib.itoa (n:Int) = [UInt8.ofNat (48+n)]:=by
  unfold Lib.itoa
  rw [if_neg (by omega),Int.toNat_natCast,Lib.decDigits_one h]
theorem itoa_neg2:Lib.itoa (-2) = [45,50]:=by
  unfold Lib.itoa
  rw [if_pos (by decide),show (-2:Int).natAbs=2 from rfl,Lib.decDigits_one (by decide)]
  rfl
theorem textL_three:textL exThree = [115,101,116,32,49,32,49,48,48,59,32,99,111,110,115,32,48,32,49,32,48,59,32,106,117,109,112,32,48,32,45,50]:=by
  have e0:Lib.itoa 0 = [48]:=itoa_digit (n:=0) (by decide)
  have e1:Lib.itoa 1 = [49]:=itoa_digit (n:=1) (by decide)
  unfold textL exThree
  simp only [List.map_cons,List.map_nil]
  unfold textOf
  rw [words_set rfl,words_cons rfl,words_two (by decide) (by decide)]
  simp only [e0,e1,itoa_neg2]
  rfl
theorem awake_tells (k:Nat) (hk:2000010≤k):narcissuslaw02_awake.f k=some true:=by
  have hc:code_Code.f k exTail=some (bs [49,49,49,48,49,48,49,48,49,48,48,49,48,48,48],0):=by
    rw [code_yes (by omega) okp_tail]
    rfl
  have hd:code_Decode.f k (⟨#[49,49,49,48,49,48,49,48,49,48,48,49,48,48,48]⟩:ByteArray)=some (exTail,0):=decode_yes hk okp_tail (by decide) rfl
  have hp:code_Parse.f k (⟨#[115,101,116,32,49,32,49,48,48,59,32,99,111,110,115,32,48,32,49,32,48,59,32,106,117,109,112,32,48,32,45,50]⟩:ByteArray)=some (exThree,0):=parse_yes (by omega) okp_three (by decide) textL_three.symm
  have h1:code_Valid.f k [(⟨5,0,1,0,(⟨#[]⟩:ByteArray)⟩:Ins)]=some true:=validp_yes (by omega) (okp_one (by decide) (.inr (.inr (.inr ⟨rfl,⟨by decide,by decide⟩,by decide,by decide,rfl,rfl⟩))))
  have h2:code_Valid.f k [(⟨5,0,2,0,(⟨#[]⟩:ByteArray)⟩:Ins)]=some false:=by
    refine validp_no (by omega) fun h=>?_
    rcases h.2.2 0 (by decide) with h|h|h|h
    · exact absurd h.1 (by decide)
    · exact absurd h.1 (by decide)
    · exact absurd h.1 (by decide)
    · exact absurd h.2.2.2.1 (by decide)
  have h3:code_Valid.f k [(⟨1,0,32,0,(⟨#[]⟩:ByteArray)⟩:Ins)]=some false:=by
    refine validp_no (by omega) fun h=>?_
    rcases h.2.2 0 (by decide) with h|h|h|h
    · exact absurd h.1 (by decide)
    · exact absurd h.2.2.1.2 (by decide)
    · exact absurd h.1 (by decide)
    · exact absurd h.1 (by decide)
  unfold narcissuslaw02_awake.f
  rw [Option.bind_some]
  have hc':code_Code.f k [(⟨4,0,0,0,(⟨#[]⟩:ByteArray)⟩:Ins)]=_:=hc
  rw [hc',Option.bind_some,hd,Option.bind_some,hp,Option.bind_some]
  rw [if_pos rfl,toL,bl_bs,if_pos rfl,if_pos rfl]
  have s1:narcissusref02_Same.f k exTail [(⟨4,0,0,0,(⟨#[]⟩:ByteArray)⟩:Ins)]=some true:=same_yes exTail (by decide) k (by show 1<k;omega)
  have s2:narcissusref02_Same.f k exThree [(⟨0,1,0,0,(⟨#[49,48,48]⟩:ByteArray)⟩:Ins),⟨2,0,1,0,⟨#[]⟩⟩,⟨5,0,-2,0,⟨#[]⟩⟩]=some true:=same_yes exThree (by decide) k (by show 3<k;omega)
  rw [s1,Option.bind_some,if_pos rfl,if_pos rfl,s2,Option.bind_some,if_pos rfl,h1,Option.bind_some,if_pos rfl,h2,Option.bind_some,if_neg (by decide),h3]
  rfl
end Go.Proofs.YtfckjfoalpkpjaaGreatDoor.Plain
end
namespace Go.Proofs.YtfckjfoalpkpjaaGreatDoor.C
open Go.RowKit Go.Proofs.YtfckjfoalpkpjaaGreatDoorW.PrintWords Go.Proofs.YtfckjfoalpkpjaaGreatDoorW.PrintLast Go.Proofs.YtfckjfoalpkpjaaGreatDoorW.PrintMore
section
attribute [local go_sem] max2_int min2_int max_two min_two max_three min_three max_four min_four
def narcissusref02_Trees.l0:Nat→List (S42)→Int→Int→Option (Int)
 | 0,_,_,_=>none
 | k+1,x0,x3,x4=>if x4<(x0.length:Int) then (if 0≤x4 then (narcissusref02_Trees.l0 k x0 (wrap64 (x3+(((rd_T42 x0 x4).f4).size:Int))) (wrap64 (x4+1))) else (none)) else (some x3)
def narcissusref02_Trees.f (k:Nat) (l0:List (S42)):Option (Int):=narcissusref02_Trees.l0 k l0 0 0
theorem narcissusref02_Trees.mono_l : ∀ k,(∀ y0 y1 y2,LeO (narcissusref02_Trees.l0 k y0 y1 y2) (narcissusref02_Trees.l0 (k+1) y0 y1 y2))
 | 0=>fun _ _ _ r h=>by simp [narcissusref02_Trees.l0] at h
 | k+1=>by
  have ih0:=narcissusref02_Trees.mono_l k
  ·intro y0 y1 y2
   unfold narcissusref02_Trees.l0
   repeat' first
   | (with_reducible exact ih0 _ _ _)
   | (with_reducible exact LeO.refl _)
   | (with_reducible exact LeO.none _)
   | (with_reducible refine LeO.ite ?_ ?_)
   | (with_reducible refine LeO.bind ?_ (fun _=>?_))
   | exact ih0 _ _ _
   | exact LeO.none _
   | refine LeO.ite ?_ ?_
   | refine LeO.bind ?_ (fun _=>?_)
theorem narcissusref02_Trees.mono : ∀ a0 k,LeO (narcissusref02_Trees.f k a0) (narcissusref02_Trees.f (k+1) a0):=by
 intro a0 k
 have ih0:=narcissusref02_Trees.mono_l k
 unfold narcissusref02_Trees.f
 repeat' first
   | (with_reducible exact ih0 _ _ _)
   | (with_reducible exact LeO.refl _)
   | (with_reducible exact LeO.none _)
   | (with_reducible refine LeO.ite ?_ ?_)
   | (with_reducible refine LeO.bind ?_ (fun _=>?_))
   | exact ih0 _ _ _
   | exact LeO.none _
   | refine LeO.ite ?_ ?_
   | refine LeO.bind ?_ (fun _=>?_)
set_option maxHeartbeats 8000000 in
set_option maxRecDepth 100000 in
theorem narcissusref02_Trees.calls (k:Nat) (A0:Option Addr) (c0:Nat) (l0:List (S42)) (r:Int) (w:World) (hr0:Kd.C k42 w A0 l0.length l0) (hc0:l0.length≤c0) (h:narcissusref02_Trees.f k l0=some r) :
  Calls Tryz.prog 39 #[.slice A0 l0.length c0] w fun e w'=>e = .returned (.int .i64 r)∧Drawn0 w w':=by
 have HR0:=Aside0.mk hr0
 have HC0:=Aside0.mk hc0
 clear hr0 hc0;have H:(narcissusref02_Trees.l0 k l0 0 0)=some r:=h
 clear h;have H':=Aside0.mk H
 clear H;go_enter Tryz.func39,Tryz.ntmps39
 go_wp2
 go_loopg [3,4] k (fun kq v3 v4 w' => ∃ (x3_1:Int) (x4_1:Int),v3 = .int .i64 x3_1∧v4 = .int .i64 x4_1∧Aside0 (narcissusref02_Trees.l0 kq l0 x3_1 x4_1=some r)∧Aside0 (kq≤k)∧Drawn0 w w')
 case atStart=>exact ⟨(0),(0),(by first|rfl|(simp;done)|(simp [*];done)),(by first|rfl|(simp;done)|(simp [*];done)),H',⟨Nat.le_refl _⟩,by repeat (first|exact Drawn0.refl _|apply Drawn0.step)⟩
 case round =>
  clear H';obtain ⟨x3_1,x4_1,rfl,rfl,HA,HK1,⟨m1,rfl⟩⟩:=hrel
  cases gk with
  | zero=>exact absurd HA.out (by simp [narcissusref02_Trees.l0])
  | succ k1 =>
   have H:=HA.out
   clear HA;simp only [narcissusref02_Trees.l0] at H
   by_cases c2:x4_1<(l0.length:Int)
   ·rw [if_pos c2] at H
    have c2b0:decide (x4_1<(l0.length:Int))=true:=decide_eq_true c2
    clear c2;by_cases c3:0≤x4_1
    ·rw [if_pos c3] at H
     have c3b0:decide (0≤x4_1)=true:=decide_eq_true c3
     clear c3;have H':=Aside0.mk H
     clear H;have p1:0≤(x4_1:Int):=of_decide_eq_true (by first|(with_reducible assumption)|assumption)
     have q1:x4_1<(l0.length:Int):=of_decide_eq_true (by first|(with_reducible assumption)|assumption)
     obtain ⟨ad1,e1,hx1_0,hx1_1,hx1_2,hx1_3,hx1_4⟩:=at_T42 HR0.out x4_1 p1 q1
     cases e1
     replace p1:=eq_true p1;replace q1:=eq_true q1;go_wp2
     go_roundg k1
     case measure=>have:=HK1.out;omega
     case rel=>exact ⟨(wrap64 (x3_1+(((rd_T42 l0 x4_1).f4).size:Int))),(wrap64 (x4_1+1)),(by first|rfl|(simp;done)|(simp [*];done)),(by first|rfl|(simp;done)|(simp [*];done)),H',⟨by have:=HK1.out;omega⟩,by repeat (first|exact Drawn0.refl _|apply Drawn0.step)⟩
    ·rw [if_neg c3] at H
     exact absurd H (by simp)
   ·rw [if_neg c2] at H
    have c2b0:decide (x4_1<(l0.length:Int))=false:=decide_eq_false c2
    clear c2;obtain rfl:=Option.some.inj H
    go_wp2
    go_ret
    exact ⟨by first|rfl|(simp;done)|(simp [*];done)|(simp [show ∀ l:List UInt8,(l != []) = !l.isEmpty from fun l=>by cases l<;>rfl];done),by repeat (first|exact Drawn0.refl _|apply Drawn0.step)⟩
end
section
attribute [local go_sem] max2_int min2_int max_two min_two max_three min_three max_four min_four
def narcissusref02_Register.f (a0:Int):Option (Bool):=if a0 ≥ 0 then (some (decide (a0<32))) else (some false)
set_option maxHeartbeats 8000000 in
set_option maxRecDepth 100000 in
theorem narcissusref02_Register.calls (a0:Int) (r:Bool) (w:World) (h:narcissusref02_Register.f a0=some r) :
  Calls Tryz.prog 72 #[.int .i64 a0] w fun e w'=>e = .returned (.bool r)∧Drawn0 w w':=by
 have H:(if a0 ≥ 0 then (some (decide (a0<32))) else (some false))=some r:=h
 clear h;by_cases c2:a0 ≥ 0
 ·rw [if_pos c2] at H
  have c2b0:decide (0≤a0)=true:=decide_eq_true c2
  clear c2;obtain rfl:=Option.some.inj H
  go_enter Tryz.func72,Tryz.ntmps72
  go_wp2
  go_ret
  exact ⟨by first|rfl|(simp;done)|(simp [*];done)|(simp [show ∀ l:List UInt8,(l != []) = !l.isEmpty from fun l=>by cases l<;>rfl];done),by repeat (first|exact Drawn0.refl _|apply Drawn0.step)⟩
 ·rw [if_neg c2] at H
  have c2b0:decide (0≤a0)=false:=decide_eq_false c2
  clear c2;obtain rfl:=Option.some.inj H
  go_enter Tryz.func72,Tryz.ntmps72
  go_wp2
  go_ret
  exact ⟨by first|rfl|(simp;done)|(simp [*];done)|(simp [show ∀ l:List UInt8,(l != []) = !l.isEmpty from fun l=>by cases l<;>rfl];done),by repeat (first|exact Drawn0.refl _|apply Drawn0.step)⟩
end
section
attribute [local go_sem] max2_int min2_int max_two min_two max_three min_three max_four min_four
mutual
def narcissusref01_End.l0:Nat→ByteArray→Int→Int→Option (Int)
 | 0,_,_,_=>none
 | k+1,x0,x1,x5=>if x5 > 0 then (if x1 ≥ (x0.size:Int) then (narcissusref01_End.j1 k x0 x1 x5 true) else (if 0≤x1 then (if x1<(x0.size:Int) then (if (bt x0 x1)=48 then (narcissusref01_End.j1 k x0 x1 x5 false) else (narcissusref01_End.j1 k x0 x1 x5 ((bt x0 x1) != 49))) else (none)) else (none))) else (some x1)
def narcissusref01_End.j1:Nat→ByteArray→Int→Int→Bool→Option (Int)
 | 0,_,_,_,_=>none
 | k+1,x0,x1,x5,x25=>if x25=true then (some (-1)) else (if 0≤x1 then (if x1<(x0.size:Int) then (if (bt x0 x1)=49 then (narcissusref01_End.l0 k x0 (wrap64 (x1+1)) (wrap64 (x5+1))) else (narcissusref01_End.l0 k x0 (wrap64 (x1+1)) (wrap64 (x5 - 1)))) else (none)) else (none))
end
def narcissusref01_End.f (k:Nat) (a0:ByteArray) (a1:Int):Option (Int):=narcissusref01_End.l0 k a0 a1 1
theorem narcissusref01_End.mono_l : ∀ k,(∀ y0 y1 y2,LeO (narcissusref01_End.l0 k y0 y1 y2) (narcissusref01_End.l0 (k+1) y0 y1 y2))∧(∀ y0 y1 y2 y3,LeO (narcissusref01_End.j1 k y0 y1 y2 y3) (narcissusref01_End.j1 (k+1) y0 y1 y2 y3))
 | 0=>⟨fun _ _ _ r h=>by simp [narcissusref01_End.l0] at h,fun _ _ _ _ r h=>by simp [narcissusref01_End.j1] at h⟩
 | k+1=>by
  obtain ⟨ih0,ih1⟩:=narcissusref01_End.mono_l k
  refine ⟨?_,?_⟩
  ·intro y0 y1 y2
   unfold narcissusref01_End.l0
   repeat' first
   | (with_reducible exact ih0 _ _ _)
   | (with_reducible exact ih1 _ _ _ _)
   | (with_reducible exact LeO.refl _)
   | (with_reducible exact LeO.none _)
   | (with_reducible refine LeO.ite ?_ ?_)
   | (with_reducible refine LeO.bind ?_ (fun _=>?_))
   | exact ih0 _ _ _
   | exact ih1 _ _ _ _
   | exact LeO.none _
   | refine LeO.ite ?_ ?_
   | refine LeO.bind ?_ (fun _=>?_)
  ·intro y0 y1 y2 y3
   unfold narcissusref01_End.j1
   repeat' first
   | (with_reducible exact ih0 _ _ _)
   | (with_reducible exact ih1 _ _ _ _)
   | (with_reducible exact LeO.refl _)
   | (with_reducible exact LeO.none _)
   | (with_reducible refine LeO.ite ?_ ?_)
   | (with_reducible refine LeO.bind ?_ (fun _=>?_))
   | exact ih0 _ _ _
   | exact ih1 _ _ _ _
   | exact LeO.none _
   | refine LeO.ite ?_ ?_
   | refine LeO.bind ?_ (fun _=>?_)
theorem narcissusref01_End.mono : ∀ a0 a1 k,LeO (narcissusref01_End.f k a0 a1) (narcissusref01_End.f (k+1) a0 a1):=by
 intro a0 a1 k
 obtain ⟨ih0,ih1⟩:=narcissusref01_End.mono_l k
 unfold narcissusref01_End.f
 repeat' first
   | (with_reducible exact ih0 _ _ _)
   | (with_reducible exact ih1 _ _ _ _)
   | (with_reducible exact LeO.refl _)
   | (with_reducible exact LeO.none _)
   | (with_reducible refine LeO.ite ?_ ?_)
   | (with_reducible refine LeO.bind ?_ (fun _=>?_))
   | exact ih0 _ _ _
   | exact ih1 _ _ _ _
   | exact LeO.none _
   | refine LeO.ite ?_ ?_
   | refine LeO.bind ?_ (fun _=>?_)
set_option maxHeartbeats 8000000 in
set_option maxRecDepth 100000 in
theorem narcissusref01_End.calls (k:Nat) (a0:ByteArray) (a1:Int) (r:Int) (w:World) (h:narcissusref01_End.f k a0 a1=some r) :
  Calls Tryz.prog 30 #[.string a0,.int .i64 a1] w fun e w'=>e = .returned (.int .i64 r)∧Drawn0 w w':=by
 have H:(narcissusref01_End.l0 k a0 a1 1)=some r:=h
 clear h;have H':=Aside0.mk H
 clear H;go_enter Tryz.func30,Tryz.ntmps30
 go_wp2
 go_loopg [1,5] k (fun kq v1 v5 w' => ∃ (x1_1:Int) (x5_1:Int),v1 = .int .i64 x1_1∧v5 = .int .i64 x5_1∧Aside0 (narcissusref01_End.l0 kq a0 x1_1 x5_1=some r)∧Aside0 (kq≤k)∧Drawn0 w w')
 case atStart=>exact ⟨(a1),(1),(by first|rfl|(simp;done)|(simp [*];done)),(by first|rfl|(simp;done)|(simp [*];done)),H',⟨Nat.le_refl _⟩,by repeat (first|exact Drawn0.refl _|apply Drawn0.step)⟩
 case round =>
  clear H';try clear p2
  obtain ⟨x1_1,x5_1,rfl,rfl,HA,HK1,⟨m1,rfl⟩⟩:=hrel
  cases gk with
  | zero=>exact absurd HA.out (by simp [narcissusref01_End.l0])
  | succ k1 =>
   have H:=HA.out
   clear HA;simp only [narcissusref01_End.l0] at H
   by_cases c3:x5_1 > 0
   ·rw [if_pos c3] at H
    have c3b0:decide (0<x5_1)=true:=decide_eq_true c3
    clear c3;have HC4:=Aside0.mk H
    clear H;go_upto_region 4 with (fail)
    go_cut [25] (fun v25 wc => ∃ (kq:Nat) (x25_3:Bool),v25 = .bool x25_3∧Aside0 (narcissusref01_End.j1 kq a0 x1_1 x5_1 x25_3=some r)∧Aside0 (kq≤k1)∧Drawn0 w wc)
    case first =>
     have H:=HC4.out
     clear HC4;by_cases c5:x1_1 ≥ (a0.size:Int)
     ·rw [if_pos c5] at H
      have c5b0:decide ((a0.size:Int)≤x1_1)=true:=decide_eq_true c5
      clear c5;(first|rw [c5b0]|(simp only [i64_w,i32_w];rw [c5b0])|skip)
      have H':=Aside0.mk H
      clear H;go_wp2
      go_meet
      case rel=>exact ⟨_,(true),(by first|rfl|(simp;done)|(simp [*];done)),H',⟨by have:=HK1.out;first|omega|exact Nat.le_refl _⟩,by repeat (first|exact Drawn0.refl _|apply Drawn0.step)⟩
     ·rw [if_neg c5] at H
      have c5b0:decide ((a0.size:Int)≤x1_1)=false:=decide_eq_false c5
      clear c5;(first|rw [c5b0]|(simp only [i64_w,i32_w];rw [c5b0])|skip)
      by_cases c6:0≤x1_1
      ·rw [if_pos c6] at H
       have c6b0:decide (0≤x1_1)=true:=decide_eq_true c6
       clear c6;by_cases c7:x1_1<(a0.size:Int)
       ·rw [if_pos c7] at H
        have c7b0:decide (x1_1<(a0.size:Int))=true:=decide_eq_true c7
        clear c7;by_cases c9:(bt a0 x1_1)=48
        ·rw [if_pos c9] at H
         have c9b0:((bt a0 x1_1) == 48)=true:=beq_iff_eq.mpr c9
         have c9b1:((bt a0 x1_1) != 48)=false:=bne_eq_false_iff_eq.mpr c9
         clear c9;have H':=Aside0.mk H
         clear H;have p8:0≤(x1_1:Int):=of_decide_eq_true (by first|(with_reducible assumption)|assumption)
         have q8:x1_1<(a0.size:Int):=of_decide_eq_true (by first|(with_reducible assumption)|assumption)
         have hx8:=bt_at a0 x1_1
         replace p8:=eq_true p8;replace q8:=eq_true q8;go_wp2
         go_meet
         case rel=>exact ⟨_,(false),(by first|rfl|(simp;done)|(simp [*];done)),H',⟨by have:=HK1.out;first|omega|exact Nat.le_refl _⟩,by repeat (first|exact Drawn0.refl _|apply Drawn0.step)⟩
        ·rw [if_neg c9] at H
         have c9b0:((bt a0 x1_1) == 48)=false:=beq_eq_false_iff_ne.mpr c9
         have c9b1:((bt a0 x1_1) != 48)=true:=bne_iff_ne.mpr c9
         have H':=Aside0.mk H
         clear H;have p8:0≤(x1_1:Int):=of_decide_eq_true (by first|(with_reducible assumption)|assumption)
         have q8:x1_1<(a0.size:Int):=of_decide_eq_true (by first|(with_reducible assumption)|assumption)
         have hx8:=bt_at a0 x1_1
         replace p8:=eq_true p8;replace q8:=eq_true q8;have p10:0≤(x1_1:Int):=of_decide_eq_true (by first|(with_reducible assumption)|assumption)
         have q10:x1_1<(a0.size:Int):=of_decide_eq_true (by first|(with_reducible assumption)|assumption)
         have hx10:=bt_at a0 x1_1
         replace p10:=eq_true p10;replace q10:=eq_true q10;go_wp2
         go_meet
         case rel=>exact ⟨_,(((bt a0 x1_1) != 49)),(by first|rfl|(simp;done)|(simp [*];done)),H',⟨by have:=HK1.out;first|omega|exact Nat.le_refl _⟩,by repeat (first|exact Drawn0.refl _|apply Drawn0.step)⟩
       ·rw [if_neg c7] at H
        exact absurd H (by simp)
      ·rw [if_neg c6] at H
       exact absurd H (by simp)
    case rest =>
     clear HC4;try clear p1
     try clear q1
     try clear hx1
     try clear p2
     try clear c3
     try clear c3b0
     try clear c5
     try clear c5b0
     try clear c6
     try clear c6b0
     try clear c7
     try clear c7b0
     try clear p8
     try clear q8
     try clear hx8
     try clear c9
     try clear c9b0
     try clear c9b1
     try clear p10
     try clear q10
     try clear hx10
     try clear p10
     try clear p2
     try clear p8
     try clear q10
     try clear q8
     obtain ⟨kq,x25_3,rfl,HA,HJ3,⟨mc3,rfl⟩⟩:=hcut
     cases kq with
     | zero=>exact absurd HA.out (by simp [narcissusref01_End.j1])
     | succ kj3 =>
      have H:=HA.out
      clear HA;simp only [narcissusref01_End.j1] at H
      by_cases c11:x25_3=true
      ·subst c11
       have H1:(some (-1))=some r:=by rw [if_pos rfl] at H;exact H
       clear H;have H:=H1
       clear H1;obtain rfl:=Option.some.inj H
       go_wp2
       go_ret
       exact ⟨by first|rfl|(simp;done)|(simp [*];done)|(simp [show ∀ l:List UInt8,(l != []) = !l.isEmpty from fun l=>by cases l<;>rfl];done),by repeat (first|exact Drawn0.refl _|apply Drawn0.step)⟩
      ·replace c11:=Bool.eq_false_iff.mpr c11
       subst c11;have H1:(if 0≤x1_1 then (if x1_1<(a0.size:Int) then (if (bt a0 x1_1)=49 then (narcissusref01_End.l0 kj3 a0 (wrap64 (x1_1+1)) (wrap64 (x5_1+1))) else (narcissusref01_End.l0 kj3 a0 (wrap64 (x1_1+1)) (wrap64 (x5_1 - 1)))) else (none)) else (none))=some r:=by rw [if_neg (show ¬ (false=true) by decide)] at H;exact H
       clear H;have H:=H1
       clear H1;by_cases c12:0≤x1_1
       ·rw [if_pos c12] at H
        have c12b0:decide (0≤x1_1)=true:=decide_eq_true c12
        clear c12;by_cases c13:x1_1<(a0.size:Int)
        ·rw [if_pos c13] at H
         have c13b0:decide (x1_1<(a0.size:Int))=true:=decide_eq_true c13
         clear c13;by_cases c15:(bt a0 x1_1)=49
         ·rw [if_pos c15] at H
          have c15b0:((bt a0 x1_1) == 49)=true:=beq_iff_eq.mpr c15
          have c15b1:((bt a0 x1_1) != 49)=false:=bne_eq_false_iff_eq.mpr c15
          clear c15;have H':=Aside0.mk H
          clear H;have p14:0≤(x1_1:Int):=of_decide_eq_true (by first|(with_reducible assumption)|assumption)
          have q14:x1_1<(a0.size:Int):=of_decide_eq_true (by first|(with_reducible assumption)|assumption)
          have hx14:=bt_at a0 x1_1
          replace p14:=eq_true p14;replace q14:=eq_true q14;go_wp2
          go_roundg kj3
          case measure=>have:=HK1.out;have:=HJ3.out;omega
          case rel=>exact ⟨(wrap64 (x1_1+1)),(wrap64 (x5_1+1)),(by first|rfl|(simp;done)|(simp [*];done)),(by first|rfl|(simp;done)|(simp [*];done)),H',⟨by have:=HK1.out;have:=HJ3.out;omega⟩,by repeat (first|exact Drawn0.refl _|apply Drawn0.step)⟩
         ·rw [if_neg c15] at H
          have c15b0:((bt a0 x1_1) == 49)=false:=beq_eq_false_iff_ne.mpr c15
          have c15b1:((bt a0 x1_1) != 49)=true:=bne_iff_ne.mpr c15
          have H':=Aside0.mk H
          clear H;have p14:0≤(x1_1:Int):=of_decide_eq_true (by first|(with_reducible assumption)|assumption)
          have q14:x1_1<(a0.size:Int):=of_decide_eq_true (by first|(with_reducible assumption)|assumption)
          have hx14:=bt_at a0 x1_1
          replace p14:=eq_true p14;replace q14:=eq_true q14;go_wp2
          go_roundg kj3
          case measure=>have:=HK1.out;have:=HJ3.out;omega
          case rel=>exact ⟨(wrap64 (x1_1+1)),(wrap64 (x5_1 - 1)),(by first|rfl|(simp;done)|(simp [*];done)),(by first|rfl|(simp;done)|(simp [*];done)),H',⟨by have:=HK1.out;have:=HJ3.out;omega⟩,by repeat (first|exact Drawn0.refl _|apply Drawn0.step)⟩
        ·rw [if_neg c13] at H
         exact absurd H (by simp)
       ·rw [if_neg c12] at H
        exact absurd H (by simp)
   ·rw [if_neg c3] at H
    have c3b0:decide (0<x5_1)=false:=decide_eq_false c3
    clear c3;obtain rfl:=Option.some.inj H
    go_wp2
    go_ret
    exact ⟨by first|rfl|(simp;done)|(simp [*];done)|(simp [show ∀ l:List UInt8,(l != []) = !l.isEmpty from fun l=>by cases l<;>rfl];done),by repeat (first|exact Drawn0.refl _|apply Drawn0.step)⟩
end
section
attribute [local go_sem] max2_int min2_int max_two min_two max_three min_three max_four min_four
def narcissusref01_Valid.f (k:Nat) (a0:ByteArray):Option (Bool):=if (a0.size:Int)≤2000000 then ((narcissusref01_End.f k a0 0).bind fun t1=>(some (t1 == (a0.size:Int)))) else (some false)
theorem narcissusref01_Valid.mono : ∀ a0 k,LeO (narcissusref01_Valid.f k a0) (narcissusref01_Valid.f (k+1) a0):=by
 intro a0 k
 unfold narcissusref01_Valid.f
 repeat' first
   | (with_reducible exact narcissusref01_End.mono _ _ _)
   | (with_reducible exact LeO.refl _)
   | (with_reducible exact LeO.none _)
   | (with_reducible refine LeO.ite ?_ ?_)
   | (with_reducible refine LeO.bind ?_ (fun _=>?_))
   | exact narcissusref01_End.mono _ _ _
   | exact LeO.none _
   | refine LeO.ite ?_ ?_
   | refine LeO.bind ?_ (fun _=>?_)
set_option maxHeartbeats 8000000 in
set_option maxRecDepth 100000 in
theorem narcissusref01_Valid.calls (k:Nat) (a0:ByteArray) (r:Bool) (w:World) (h:narcissusref01_Valid.f k a0=some r) :
  Calls Tryz.prog 9 #[.string a0] w fun e w'=>e = .returned (.bool r)∧Drawn0 w w':=by
 have H:(if (a0.size:Int)≤2000000 then ((narcissusref01_End.f k a0 0).bind fun t1=>(some (t1 == (a0.size:Int)))) else (some false))=some r:=h
 clear h;by_cases c2:(a0.size:Int)≤2000000
 ·rw [if_pos c2] at H
  have c2b0:decide ((a0.size:Int)≤2000000)=true:=decide_eq_true c2
  have c2b1:decide (a0.size≤2000000)=true:=decide_eq_true (by omega)
  clear c2;replace H:=Option.bind_eq_some_iff.mp H
  obtain ⟨t1,A30,H⟩:=H
  replace H:(some (t1 == (a0.size:Int)))=some r:=H
  have A3:=Aside0.mk A30
  clear A30;obtain rfl:=Option.some.inj H
  go_enter Tryz.func9,Tryz.ntmps9
  go_wp2_with (first|(go_at_call 30;(with_reducible refine (narcissusref01_End.calls k a0 0 t1 _ A3.out).mono ?_);rintro e w' ⟨rfl,⟨nd,rfl⟩⟩))
  go_ret
  exact ⟨by first|rfl|(simp;done)|(simp [*];done)|(simp [show ∀ l:List UInt8,(l != []) = !l.isEmpty from fun l=>by cases l<;>rfl];done),by repeat (first|exact Drawn0.refl _|apply Drawn0.step)⟩
 ·rw [if_neg c2] at H
  have c2b0:decide ((a0.size:Int)≤2000000)=false:=decide_eq_false c2
  have c2b1:decide (a0.size≤2000000)=false:=decide_eq_false (by omega)
  clear c2;obtain rfl:=Option.some.inj H
  go_enter Tryz.func9,Tryz.ntmps9
  go_wp2
  go_ret
  exact ⟨by first|rfl|(simp;done)|(simp [*];done)|(simp [show ∀ l:List UInt8,(l != []) = !l.isEmpty from fun l=>by cases l<;>rfl];done),by repeat (first|exact Drawn0.refl _|apply Drawn0.step)⟩
end
end Go.Proofs.YtfckjfoalpkpjaaGreatDoor.C
