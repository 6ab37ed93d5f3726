import Derived.Test.YtfckjfoalpkpjaaGreatDoorT0
import Derived.Test.YtfckjfoalpkpjaaGreatDoorS0
import Derived.Lib.LaidTab
import Derived.Lib.Split
import Derived.Lib.SplitLaws
import Derived.Lib.OthersKept
import Derived.Lib.FrozenHead2
import Derived.Shelf.Strings.BuilderK
import Derived.Lib.Repeat
namespace Go.Proofs.YtfckjfoalpkpjaaGreatDoor.C
open Go.RowKit Go.Proofs.YtfckjfoalpkpjaaGreatDoorW.PrintWords Go.Proofs.YtfckjfoalpkpjaaGreatDoorW.PrintLast Go.Proofs.YtfckjfoalpkpjaaGreatDoorW.PrintMore
structure LaidW (w:World):Prop where
  ml : ∃ m,w.cell? ⟨0,0,none⟩=some (.int .i64 m)
  sy : ∃ tp p,w.cell? ⟨4,0,none⟩=some (.iface tp p)
  rg : ∃ tp p,w.cell? ⟨5,0,none⟩=some (.iface tp p)
  tab:Lib.TabIs Tryz.prog w "internal/strconv.uint64pow10" .u64 Lib.pow10Tab
theorem pow10_named:Tryz.prog.globalNamed "internal/strconv.uint64pow10" = some 1:=by kernel_rfl
theorem LaidW.below {w w':World} (h:LaidW w) (hb:Below w.heap.size w w'):LaidW w':=by
  obtain ⟨⟨m,h1⟩,⟨tp,p,h2⟩,⟨tp',p',h3⟩,h4⟩:=h
  refine ⟨⟨m,pw_cell_below hb h1⟩,⟨tp,p,pw_cell_below hb h2⟩,⟨tp',p',pw_cell_below hb h3⟩,?_⟩
  unfold Lib.TabIs World.var? at *
  rw [pow10_named] at *
  simp only [Option.bind_some] at *
  have hlt:1<w.heap.size:=by
    rcases Nat.lt_or_ge 1 w.heap.size with h|h
    · exact h
    · rw [Array.getElem?_eq_none h] at h4
      simp at h4
  rw [hb.block _ hlt]
  exact h4
theorem LaidW.alloc {w:World} (h:LaidW w) (o:Obj):LaidW (w.alloc o):=h.below (below_alloc (Below.refl _ _) o)
theorem LaidW.drew {w:World} (h:LaidW w):LaidW w.drew:=h.below (Below.refl _ _).drew
theorem LaidW.drewN {w:World} (h:LaidW w) (n:Nat):LaidW (w.drewN n):=h.below (pw_below_drewN (Below.refl _ _) n)
def strings_Repeat.f (a0:ByteArray) (a1:Int):Option ByteArray :=
  if 0≤a1∧a1≤9223372036854775807∧a0.size * a1.toNat≤140737488355328 then some ⟨(Lib.repeatL a0.data.toList a1.toNat).toArray⟩ else none
theorem strings_Repeat.calls (a0:ByteArray) (a1:Int) (r:ByteArray) (w:World) (h:strings_Repeat.f a0 a1=some r) :
    Calls Tryz.prog 74 #[.string a0,.int .i64 a1] w fun e w'=>e = .returned (.string r)∧Below w.heap.size w w':=by
  unfold strings_Repeat.f at h
  split at h
  case isFalse=>cases h
  case isTrue hc =>
  obtain ⟨h0,h1,h2⟩:=hc
  obtain ⟨n,rfl⟩:=Int.eq_ofNat_of_zero_le h0
  obtain rfl:=Option.some.inj h
  exact Tryz.strings_Repeat a0 n w (by omega) (by simpa using h2)
def strings_Split.f (a0 a1:ByteArray):Option (List ByteArray) :=
  if a0.size<4294967281∧1≤a1.size then some (Lib.splitB a1 0 (Lib.countB a0 a1) a0) else none
theorem cells_own {w:World} {e:Nat} (xs:List ByteArray) (n:Nat) (hn:xs.length=n) (hm:n≤9223372036854775807) :
    Kd.R Kd.string e (w.alloc (.cells (xs.map Value.string).toArray e)) w.heap.size (fun _=>True) (.slice (some ⟨w.heap.size,0,none⟩) n n) xs:=by
  subst hn;refine ⟨fun _ _=>trivial,xs.map Value.string,?_,?_⟩
  · refine ⟨by simp [Kd.string,Kd.scalar],.inr ⟨w.heap.size,xs.length,(xs.map Value.string).toArray,rfl,Nat.le_refl _,heap_alloc_new w _,Nat.le_refl _,?_,?_,?_⟩⟩
    · simpa [maxLen] using hm
    · simp [Kd.string,Kd.scalar]
    · simp [Kd.string,Kd.scalar,List.take_of_length_le]
  · refine ⟨by simp [Kd.string,Kd.scalar],fun j p hj=>?_⟩
    show List.take 1 (List.drop (j * 1) (xs.map Value.string)) = [.string p]
    have hlt:=(List.getElem?_eq_some_iff.1 hj).1
    have hp:=(List.getElem?_eq_some_iff.1 hj).2
    rw [Nat.mul_one,List.drop_eq_getElem_cons (by simpa using hlt)]
    simp [hp]
theorem strings_Split.calls (a0 a1:ByteArray) (r:List ByteArray) (w:World) (hL:LaidW w) (h:strings_Split.f a0 a1=some r) :
    Calls Tryz.prog 36 #[.string a0,.string a1] w fun e w' => ∃ v0_:Value,e = .returned (v0_)∧Kd.R Kd.string 9 w' w.heap.size (fun _=>True) v0_ r∧Below w.heap.size w w':=by
  unfold strings_Split.f at h
  split at h
  case isFalse=>cases h
  case isTrue hc =>
  obtain ⟨h0,h1⟩:=hc
  obtain rfl:=Option.some.inj h
  obtain ⟨m,hm⟩:=hL.ml
  have hl:=Lib.splitB_all a1 h1 0 (Lib.countB a0 a1) a0 rfl
  have hle:Lib.countB a0 a1≤a0.size:=Lib.countB_le a1 h1 _ a0 (Nat.le_refl _)
  refine (Tryz.strings_Split a0 a1 m w h0 hm h1).mono ?_
  rintro e w' ⟨rfl,rfl⟩
  exact ⟨_,rfl,cells_own _ _ hl (by omega),(Below.refl _ _).alloc (Nat.le_refl _) _⟩
def strconv_Itoa.f (a0:Int):Option ByteArray:=if -9223372036854775808≤a0∧a0≤9223372036854775807 then some ⟨(Lib.itoa a0).toArray⟩ else none
theorem strconv_Itoa.calls (a0:Int) (r:ByteArray) (w:World) (hL:LaidW w) (h:strconv_Itoa.f a0=some r) :
    Calls Tryz.prog 52 #[.int .i64 a0] w fun e w'=>e = .returned (.string r)∧Below w.heap.size w w':=by
  unfold strconv_Itoa.f at h
  split at h
  case isFalse=>cases h
  case isTrue hc =>
  obtain rfl:=Option.some.inj h
  refine (Tryz.strconv_Itoa a0 hc.1 hc.2 w hL.tab).mono ?_
  rintro e w' ⟨rfl,k,os,rfl⟩
  exact ⟨rfl,⟨rfl,rfl,rfl,by show w.heap.size≤(w.heap ++ os).size;rw [Array.size_append];omega,fun j hj=>by show (w.heap ++ os)[j]? = w.heap[j]?;rw [Array.getElem?_append_left hj]⟩⟩
end Go.Proofs.YtfckjfoalpkpjaaGreatDoor.C
