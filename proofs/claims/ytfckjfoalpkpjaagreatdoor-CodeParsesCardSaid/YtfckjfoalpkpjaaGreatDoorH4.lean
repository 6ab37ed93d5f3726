import Derived.Test.YtfckjfoalpkpjaaGreatDoorH0
import Derived.Lib.AtoiAll
import Derived.Lib.AtoiErrMem
namespace Go.Proofs.YtfckjfoalpkpjaaGreatDoor.C
open Go.RowKit Go.Proofs.YtfckjfoalpkpjaaGreatDoorW.PrintWords Go.Proofs.YtfckjfoalpkpjaaGreatDoorW.PrintLast Go.Proofs.YtfckjfoalpkpjaaGreatDoorW.PrintMore
def integerV (l:List UInt8):Int × Bool :=
  match Lib.atoiAll l with
  | .ok v=>(v,Lib.itoa v == l)
  | .range=>(Lib.atoiSat l,false)
  | _=>(0,false)
def code_integer.f (a0:ByteArray):Option (Int × Bool):=if a0.size≤281474976710656 then some (integerV a0.data.toList) else none
theorem atoiAll_range {l:List UInt8} {v:Int} (h:Lib.atoiAll l = .ok v) : -9223372036854775808≤v∧v≤9223372036854775807:=by
  unfold Lib.atoiAll at h
  split at h
  · cases h
  · dsimp only at h
    split at h
    · cases h
    · cases h
    · split at h
      · cases h
      · split at h
        · cases h
        · injection h with h
          subst h
          split<;>omega
theorem atoi_ok (s:ByteArray) (hmax:s.size≤9223372036854775806) (v:Int) (h:Lib.atoiAll s.data.toList = .ok v) (w:World) :
    Calls Tryz.prog 84 #[.string s] w fun e w'=>e = .returned (.tuple #[.int .i64 v,.nilIface])∧Below w.heap.size w w':=by
  refine (Tryz.strconv_Atoi_ok s hmax v h w).mono ?_
  rintro e w1 ⟨rfl,hw⟩
  refine ⟨rfl,?_⟩
  rcases hw with rfl|⟨t,rfl⟩
  · exact Below.refl _ _
  · exact Lib.bytesWorld_below _ _ _
set_option maxHeartbeats 1000000 in
set_option maxRecDepth 100000 in
theorem code_integer.calls (a0:ByteArray) (r1:Int) (r2:Bool) (w:World) (hL:LaidW w) (h:code_integer.f a0=some (r1,r2)) :
    Calls Tryz.prog 67 #[.string a0] w fun e w'=>e = .returned (.tuple #[.int .i64 r1,.bool r2])∧Below w.heap.size w w':=by
  unfold code_integer.f at h
  split at h
  case isFalse=>cases h
  case isTrue hs =>
  have h:=Option.some.inj h
  unfold integerV at h
  cases hA:Lib.atoiAll a0.data.toList with
  | ok v =>
    rw [hA] at h
    simp only [Prod.mk.injEq] at h
    obtain ⟨rfl,rfl⟩:=h
    have HA:=Aside0.mk hA
    have hlo:Aside0 (-9223372036854775808≤v∧v≤9223372036854775807):=⟨atoiAll_range hA⟩
    clear hA;have HL:=Aside0.mk hL
    clear hL;have hfin:(Lib.itoa v == a0.toList)=(Lib.itoa v == a0.data.toList):=by rw [ByteArray.toList_eq]
    have HF:=Aside0.mk hfin
    clear hfin;have hI : ∀ W:World,LaidW W→Calls Tryz.prog 52 #[.int .i64 v] W fun e w'=>e = .returned (.string ⟨(Lib.itoa v).toArray⟩)∧Below W.heap.size W w':=fun W hW =>
      strconv_Itoa.calls v _ W hW (by unfold strconv_Itoa.f;rw [if_pos hlo.out])
    have HI:=Aside0.mk hI
    clear hI;go_enter Tryz.func67,Tryz.ntmps67
    go_wp2_with (go_at_call 84;refine (atoi_ok a0 (by omega) v HA.out _).mono ?_;rintro e w1 ⟨rfl,hb⟩;have HB:=Aside0.mk hb;clear hb)
    refine (HI.out _ (LaidW.below HL.out HB.out)).mono ?_
    rintro e w2 ⟨rfl,hb2⟩
    have HB2:=Aside0.mk hb2
    clear hb2;go_wp2
    go_ret2
    exact ⟨by show Ending.returned (.tuple #[.int .i64 v,.bool (Lib.itoa v == a0.toList)])=_;rw [HF.out],below_step HB.out HB2.out⟩
  | range =>
    rw [hA] at h
    simp only [Prod.mk.injEq] at h
    obtain ⟨rfl,rfl⟩:=h
    obtain ⟨tp,p,hv⟩:=hL.rg
    have HV:=Aside0.mk hv
    have HA:=Aside0.mk hA
    clear hv hA;go_enter Tryz.func67,Tryz.ntmps67
    go_wp2_with (go_at_call 84;refine (Tryz.strconv_Atoi_range a0 hs HA.out _ _ HV.out (Or.inr ⟨tp,p,rfl⟩)).mono ?_;rintro e w1 ⟨N,rfl,hN,hc,hb⟩)
    go_ret2
    exact ⟨rfl,‹Below _ _ _›⟩
  | _ =>
    rw [hA] at h
    simp only [Prod.mk.injEq] at h
    obtain ⟨rfl,rfl⟩:=h
    obtain ⟨tp,p,hv⟩:=hL.sy
    have HV:=Aside0.mk hv
    have HA:=Aside0.mk hA
    clear hv hA;go_enter Tryz.func67,Tryz.ntmps67
    go_wp2_with (go_at_call 84;refine (Tryz.strconv_Atoi_syntax a0 hs (fun v e=>by rw [HA.out] at e;cases e) (fun e=>by rw [HA.out] at e;cases e) _ _ HV.out (Or.inr ⟨tp,p,rfl⟩)).mono ?_;rintro e w1 ⟨N,rfl,hN,hc,hb⟩)
    go_ret2
    exact ⟨rfl,‹Below _ _ _›⟩
end Go.Proofs.YtfckjfoalpkpjaaGreatDoor.C
