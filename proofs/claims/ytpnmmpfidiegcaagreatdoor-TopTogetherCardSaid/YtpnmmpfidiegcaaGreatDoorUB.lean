/- Texts of this claim, together: what the functions return, and what they say in plain words. -/
import Derived.Test.YtpnmmpfidiegcaaGreatDoorProg
import Derived.Below
import Derived.Deep.Draws
import Derived.Deep.AppendLies
import Derived.Maps.AppendAt
import Derived.OwnWalk
import Derived.Laws.BytesArg
import Derived.Laws.MakeOwn
import Derived.Laws.OwnMore
import Derived.Deep.OwnRows
import Derived.Tactics
import Derived.Lib.ConvBytes
import Derived.Laws.Slices
import Derived.WalkKit
import Derived.KernelRfl
import Derived.RowKit3
import Derived.Deep.LoopGhost
import Derived.Deep.QuietTactic
import Derived.BigQuiet
import Derived.WideLaws
import Derived.Deep.DeepCutAuto
import Derived.Deep.CutBlock
import Derived.Deep.RegionHeld3
import Derived.Laws.Rows
import Derived.Lib.AppendStr
import Derived.ArgAppend
import Derived.Laws.IdiomCopy
import Derived.OrdersHeld
import Derived.Laws.BitsLemmas
import Derived.RowKit
import Derived.Test.YtpnmmpfidiegcaaGreatDoorUA
import Derived.Lib.Strings
import Derived.Lib.IndexBytes
import Derived.StillTailTactics
import Derived.Deep.RegionLaw
section
namespace Go.Proofs.YtpnmmpfidiegcaaGreatDoor.C
open Go.RowKit Go.Proofs.YtpnmmpfidiegcaaGreatDoorW.PrintWords Go.Proofs.YtpnmmpfidiegcaaGreatDoorW.PrintLast Go.Proofs.YtpnmmpfidiegcaaGreatDoorW.PrintMore
attribute [local go_sem] max2_int min2_int max_two min_two max_three min_three max_four min_four
set_option linter.unusedVariables false
set_option linter.unusedSimpArgs false
def errW : Option Int → Value
  | none => .nilIface
  | some c => .iface 138 (.int .i64 c)
theorem errW_none : errW none = .nilIface := rfl
theorem errW_some (c : Int) : errW (some c) = .iface 138 (.int .i64 c) := rfl
theorem info3 : (Tryz.prog.info? 3).map (fun i => (i.zero, i.size, i.bytes)) = some (some (.int .i64 0), 1, 8) := by kernel_rfl
theorem info5 : (Tryz.prog.info? 5).map (fun i => (i.zero, i.size, i.bytes)) = some (some (.int .u8 0), 1, 1) := by kernel_rfl
theorem info29 : (Tryz.prog.info? 29).map (fun i => (i.zero, i.size, i.bytes)) = some (some (.slice none 0 0), 1, 24) := by kernel_rfl
theorem info52 : (Tryz.prog.info? 52).map (fun i => (i.zero, i.size, i.bytes)) = some (some (.agg #[(.int .i64 0), (.int .i64 0), (.int .i64 0), (.int .i64 0), (.string ⟨#[]⟩)]), 5, 48) := by kernel_rfl
structure S52 where
  f0 : Int
  f1 : Int
  f2 : Int
  f3 : Int
  f4 : ByteArray
def z52 : S52 := ⟨(0 : Int), (0 : Int), (0 : Int), (0 : Int), (⟨#[]⟩ : ByteArray)⟩
def k52 : Kd S52 := Kd.iso (Kd.pair (Kd.int .i64) (Kd.pair (Kd.int .i64) (Kd.pair (Kd.int .i64) (Kd.pair (Kd.int .i64) Kd.string)))) (fun x : S52 => (x.f0, x.f1, x.f2, x.f3, x.f4))
theorem k52_open {w : World} {x : S52} {cs : List Value} (h : k52.K w x cs) : cs = [.int .i64 x.f0, .int .i64 x.f1, .int .i64 x.f2, .int .i64 x.f3, .string x.f4] := by
  obtain ⟨_, _, rfl, rfl, ⟨_, _, rfl, rfl, ⟨_, _, rfl, rfl, ⟨_, _, rfl, rfl, rfl⟩⟩⟩⟩ := h
  exact rfl
theorem k52_mk (w : World) (x : S52)  : k52.K w x [.int .i64 x.f0, .int .i64 x.f1, .int .i64 x.f2, .int .i64 x.f3, .string x.f4] := ⟨[.int .i64 x.f0], [.int .i64 x.f1, .int .i64 x.f2, .int .i64 x.f3, .string x.f4], rfl, rfl, ⟨[.int .i64 x.f1], [.int .i64 x.f2, .int .i64 x.f3, .string x.f4], rfl, rfl, ⟨[.int .i64 x.f2], [.int .i64 x.f3, .string x.f4], rfl, rfl, ⟨[.int .i64 x.f3], [.string x.f4], rfl, rfl, rfl⟩⟩⟩⟩
theorem k52_mkM (w : World) (base : Nat) (ok : Nat → Prop) (x : S52)  : k52.M w base ok x [.int .i64 x.f0, .int .i64 x.f1, .int .i64 x.f2, .int .i64 x.f3, .string x.f4] := ⟨[.int .i64 x.f0], [.int .i64 x.f1, .int .i64 x.f2, .int .i64 x.f3, .string x.f4], rfl, rfl, ⟨[.int .i64 x.f1], [.int .i64 x.f2, .int .i64 x.f3, .string x.f4], rfl, rfl, ⟨[.int .i64 x.f2], [.int .i64 x.f3, .string x.f4], rfl, rfl, ⟨[.int .i64 x.f3], [.string x.f4], rfl, rfl, rfl⟩⟩⟩⟩
def rd_T52 (xs : List S52) (i : Int) : S52 := xs.getD i.toNat z52
theorem at_T52 {w : World} {A : Option Addr} {n : Nat} {xs : List S52} (h : Kd.C k52 w A n xs) (i : Int) (h0 : 0 ≤ i) (h1 : i < n) : ∃ ad , A = some ad ∧ w.cell? (ad.add (i.toNat * 5)) = some (.int .i64 (rd_T52 xs i).f0) ∧ w.cell? ⟨(ad.add (i.toNat * 5)).block, (ad.add (i.toNat * 5)).off + 1, none⟩ = some (.int .i64 (rd_T52 xs i).f1) ∧ w.cell? ⟨(ad.add (i.toNat * 5)).block, (ad.add (i.toNat * 5)).off + 2, none⟩ = some (.int .i64 (rd_T52 xs i).f2) ∧ w.cell? ⟨(ad.add (i.toNat * 5)).block, (ad.add (i.toNat * 5)).off + 3, none⟩ = some (.int .i64 (rd_T52 xs i).f3) ∧ w.cell? ⟨(ad.add (i.toNat * 5)).block, (ad.add (i.toNat * 5)).off + 4, none⟩ = some (.string (rd_T52 xs i).f4) := by
  obtain ⟨ad, c, e, _, hK, hc0⟩ := Kd.C_get h z52 i h0 h1
  have hc : ∀ j u, c[j]? = some u → w.cell? (ad.add (i.toNat * 5 + j)) = some u := hc0
  obtain rfl := k52_open hK
  exact ⟨ad, e, hc 0 _ rfl, by rw [← add_field _ _ 1 (by omega)]; exact hc 1 _ rfl, by rw [← add_field _ _ 2 (by omega)]; exact hc 2 _ rfl, by rw [← add_field _ _ 3 (by omega)]; exact hc 3 _ rfl, by rw [← add_field _ _ 4 (by omega)]; exact hc 4 _ rfl⟩
def rd_L6 (xs : List (List S52)) (i : Int) : (List S52) := xs.getD i.toNat ([] : List S52)
theorem at_L6 {w : World} {A : Option Addr} {n : Nat} {xs : List (List S52)} (h : Kd.C (Kd.slice 52 k52) w A n xs) (i : Int) (h0 : 0 ≤ i) (h1 : i < n) : ∃ ad A0 c0, A = some ad ∧ w.cell? (ad.add i.toNat) = some (.slice A0 (rd_L6 xs i).length c0) ∧ (rd_L6 xs i).length ≤ c0 ∧ k52.C w A0 (rd_L6 xs i).length (rd_L6 xs i) := by
  obtain ⟨ad, c, e, _, hK, hc0⟩ := Kd.C_get h ([] : List S52) i h0 h1
  have hc : ∀ j u, c[j]? = some u → w.cell? (ad.add (i.toNat * 1 + j)) = some u := hc0
  obtain ⟨A0, c0, rfl, l0, g0⟩ := hK
  exact ⟨ad, A0, c0, e, by have hq := hc 0 _ rfl; rwa [Nat.mul_one, Nat.add_zero] at hq, l0, g0⟩
theorem lit_size (a : Array UInt8) : (⟨a⟩ : ByteArray).size = a.size := rfl
end Go.Proofs.YtpnmmpfidiegcaaGreatDoor.C
end
section
namespace Go.Proofs.YtpnmmpfidiegcaaGreatDoor.C
open Go.RowKit Go.Proofs.YtpnmmpfidiegcaaGreatDoorW.PrintWords Go.Proofs.YtpnmmpfidiegcaaGreatDoorW.PrintLast Go.Proofs.YtpnmmpfidiegcaaGreatDoorW.PrintMore
set_option linter.unusedVariables false
set_option linter.unusedSimpArgs false
def endL : List UInt8 → Nat → Nat → Option Nat
  | [], _, _ => none
  | c :: cs, o, p => if c = 48 then (if o = 1 then some (p + 1) else endL cs (o - 1) (p + 1)) else if c = 49 then endL cs (o + 1) (p + 1) else none
def tree_end.f (a0 : ByteArray) (a1 : Int) : Option (Int × Bool) :=
  if 0 ≤ a1 ∧ a1 ≤ (a0.size : Int) ∧ a0.size ≤ 4611686018427387904 then
    some (match endL (a0.data.toList.drop a1.toNat) 1 a1.toNat with | some p => ((p : Int), true) | none => (0, false))
  else none
theorem ext_list (s : ByteArray) (n : Nat) : (s.extract n s.size).data.toList = s.data.toList.drop n := by
  simp [List.take_of_length_le]
theorem drop_at (l : List UInt8) (p : Nat) (h : p < l.length) : l.drop p = l[p] :: l.drop (p + 1) := List.drop_eq_getElem_cons h
set_option maxHeartbeats 1000000 in
set_option maxRecDepth 100000 in
theorem tree_end.calls (a0 : ByteArray) (a1 : Int) (r1 : Int) (r2 : Bool) (w : World) (h : tree_end.f a0 a1 = some (r1, r2)) :
    Calls Tryz.prog 48 #[.string a0, .int .i64 a1] w fun e w' => e = .returned (.tuple #[.int .i64 r1, .bool r2]) ∧ Below w.heap.size w w' := by
  unfold tree_end.f at h
  split at h
  case isFalse => cases h
  case isTrue hc =>
  obtain ⟨h0, h1, h2⟩ := hc
  obtain ⟨n, rfl⟩ := Int.eq_ofNat_of_zero_le h0
  have hn : n ≤ a0.size := by omega
  have HR := Aside0.mk h
  clear h h1
  have h1 : (n : Int) ≤ (a0.size : Int) := by omega
  go_enter Tryz.func48, Tryz.ntmps48
  go_wp2
  have hsz : (a0.extract n a0.size).size = a0.size - n := by simp
  have hql : (a0.extract n a0.size).data.toList = a0.data.toList.drop n := ext_list a0 n
  generalize a0.extract n a0.size = q at *
  have HR' := HR.out
  rw [Int.toNat_natCast, ← hql] at HR'
  have hqs : q.data.toList.length = q.size := by simp
  have hq2 : q.size ≤ 4611686018427387904 - n := by omega
  have HL := Aside0.mk hqs
  have HS := Aside0.mk HR'
  have HZ := Aside0.mk hsz
  clear hql hsz hqs HR HR'
  go_loopw [6] (fun v wr => ∃ pos o : Nat, wr = w.iter q pos ∧ v = .int .i64 (o : Int) ∧ 1 ≤ o ∧ o ≤ pos + 1 ∧ pos ≤ q.size ∧ Aside0 (some (match endL (q.data.toList.drop pos) o (n + pos) with | some p => ((p : Int), true) | none => (0, false)) = some (r1, r2))) (fun _ wr => q.size - wr.iterPos w.heap.size)
  case atStart => exact ⟨0, 1, rfl, rfl, by omega, by omega, by omega, by simpa using HS⟩
  case round =>
    clear HS
    obtain ⟨pos, o, rfl, rfl, ho1, ho2, hp, HE⟩ := hrel
    by_cases hlt : pos < q.size
    · have hd := drop_at q.data.toList pos (by rw [HL.out]; exact hlt)
      have hc0 : q.data.toList[pos]'(by rw [HL.out]; exact hlt) = q[pos] := by simp; rfl
      rw [hc0] at hd
      have HE' := HE.out
      rw [hd] at HE'
      simp only [endL] at HE'
      clear hd hc0 HE
      have hnx0 : ∀ ty, (Instr.next (.pointer (some ⟨w.heap.size, 0, none⟩)) true ty).run Tryz.prog (w.iter q pos) = _ := fun ty => run_next_any w q pos ty hlt
      have hasc := decode_ascii q pos hlt
      have hhi := decode_high q pos hlt
      generalize q[pos] = c at *
      by_cases c48 : c = 48
      · subst c48
        rw [hasc (by decide)] at hnx0
        have hnx : ∀ ty, (Instr.next (.pointer (some ⟨w.heap.size, 0, none⟩)) true ty).run Tryz.prog (w.iter q pos) = .ok (.tuple #[.bool true, .int .i64 pos, .int .i32 48]) (w.iter q (pos + 1)) := fun ty => hnx0 ty
        clear hnx0 hasc hhi
        rw [if_pos rfl] at HE'
        by_cases o1 : o = 1
        · subst o1
          rw [if_pos rfl] at HE'
          simp only [Option.some.injEq, Prod.mk.injEq] at HE'
          obtain ⟨e1, e2⟩ := HE'
          subst e1 e2
          go_wp2
          go_ret2
          exact ⟨by simp, (Below.refl _ _).alloc (Nat.le_refl _) _⟩
        · rw [if_neg o1] at HE'
          have HN := Aside0.mk HE'
          clear HE'
          have t0 : ((o : Int) - 1 == 0) = false := beq_eq_false_iff_ne.2 (by omega)
          go_wp2
          go_roundw
          case rel => exact ⟨pos + 1, o - 1, rfl, by rw [show ((o - 1 : Nat) : Int) = (o : Int) - 1 from by omega], by omega, by omega, by omega, HN⟩
          case measure => simp; omega
      · rw [if_neg c48] at HE'
        by_cases c49 : c = 49
        · subst c49
          rw [hasc (by decide)] at hnx0
          have hnx : ∀ ty, (Instr.next (.pointer (some ⟨w.heap.size, 0, none⟩)) true ty).run Tryz.prog (w.iter q pos) = .ok (.tuple #[.bool true, .int .i64 pos, .int .i32 49]) (w.iter q (pos + 1)) := fun ty => hnx0 ty
          clear hnx0 hasc hhi
          rw [if_pos rfl] at HE'
          have HN := Aside0.mk HE'
          clear HE'
          have t0 : ((o : Int) + 1 == 0) = false := beq_eq_false_iff_ne.2 (by omega)
          go_wp2
          go_roundw
          case rel => exact ⟨pos + 1, o + 1, rfl, by go_num, by omega, by omega, by omega, HN⟩
          case measure => simp; omega
        · rw [if_neg c49] at HE'
          simp only [Option.some.injEq, Prod.mk.injEq] at HE'
          obtain ⟨e1, e2⟩ := HE'
          subst e1 e2
          have hr : ∃ r wd : Nat, Utf8.decode q pos = (r, wd) ∧ r ≠ 48 ∧ r ≠ 49 := by
            clear hnx0
            generalize Utf8.decode q pos = d at *
            refine ⟨d.1, d.2, rfl, ?_⟩
            by_cases hb : c.toNat < 128
            · rw [hasc hb]
              refine ⟨fun e => c48 ?_, fun e => c49 ?_⟩ <;> (apply UInt8.toNat_inj.1; simpa using e)
            · have := (hhi (by omega)).1
              omega
          obtain ⟨r, wd, hde, r48, r49⟩ := hr
          rw [hde] at hnx0
          have hnx : ∀ ty, (Instr.next (.pointer (some ⟨w.heap.size, 0, none⟩)) true ty).run Tryz.prog (w.iter q pos) = .ok (.tuple #[.bool true, .int .i64 pos, .int .i32 (r : Int)]) (w.iter q (pos + wd)) := fun ty => hnx0 ty
          clear hnx0 hasc hhi hde
          have t1 : ((r : Int) == 48) = false := beq_eq_false_iff_ne.2 (by omega)
          have t2 : ((r : Int) == 49) = false := beq_eq_false_iff_ne.2 (by omega)
          go_wp2
          go_ret2
          exact ⟨rfl, (Below.refl _ _).alloc (Nat.le_refl _) _⟩
    · have hnx : ∀ ty, (Instr.next (.pointer (some ⟨w.heap.size, 0, none⟩)) true ty).run Tryz.prog (w.iter q pos) = _ := fun ty => run_next_end w q pos ty hlt
      have hnil : q.data.toList.drop pos = [] := List.drop_eq_nil_of_le (by rw [HL.out]; omega)
      have HE' := HE.out
      rw [hnil] at HE'
      simp only [endL, Option.some.injEq, Prod.mk.injEq] at HE'
      obtain ⟨e1, e2⟩ := HE'
      subst e1 e2
      clear hnil HE
      go_wp2
      go_ret2
      exact ⟨rfl, (Below.refl _ _).alloc (Nat.le_refl _) _⟩
end Go.Proofs.YtpnmmpfidiegcaaGreatDoor.C
end
section
namespace Go.Proofs.YtpnmmpfidiegcaaGreatDoor.Plain
open Go.Proofs.YtpnmmpfidiegcaaGreatDoor.C (endL)
inductive Tr where
  | nil
  | cons (a b : Tr)
def Tr.enc : Tr → List UInt8
  | .nil => [48]
  | .cons a b => 49 :: (a.enc ++ b.enc)
def IsT (l : List UInt8) : Prop := ∃ t : Tr, l = t.enc
theorem isT_nil : IsT [48] := ⟨.nil, rfl⟩
theorem isT_cons {a b : List UInt8} (ha : IsT a) (hb : IsT b) : IsT (49 :: (a ++ b)) := by
  obtain ⟨t, rfl⟩ := ha
  obtain ⟨u, rfl⟩ := hb
  exact ⟨.cons t u, rfl⟩
theorem endL_enc (t : Tr) : ∀ (r : List UInt8) (o p : Nat), 1 ≤ o → endL (t.enc ++ r) o p = if o = 1 then some (p + t.enc.length) else endL r (o - 1) (p + t.enc.length) := by
  induction t with
  | nil =>
    intro r o p ho
    simp [Tr.enc, endL]
  | cons a b iha ihb =>
    intro r o p ho
    have h1 : endL ((Tr.cons a b).enc ++ r) o p = endL (a.enc ++ (b.enc ++ r)) (o + 1) (p + 1) := by
      simp [Tr.enc, endL]
    rw [h1, iha _ _ _ (by omega), if_neg (by omega), Nat.add_sub_cancel, ihb _ _ _ ho]
    have : p + 1 + a.enc.length + b.enc.length = p + (Tr.cons a b).enc.length := by simp [Tr.enc]; omega
    rw [this]
theorem endL_tree {a : List UInt8} (h : IsT a) (r : List UInt8) (p : Nat) : endL (a ++ r) 1 p = some (p + a.length) := by
  obtain ⟨t, rfl⟩ := h
  rw [endL_enc t r 1 p (Nat.le_refl _), if_pos rfl]
theorem endL_forest : ∀ (l : List UInt8) (o p q : Nat), 1 ≤ o → endL l o p = some q → ∃ ts : List Tr, ts.length = o ∧ ∃ r, l = ts.flatMap Tr.enc ++ r ∧ q = p + (ts.flatMap Tr.enc).length := by
  intro l
  induction l with
  | nil => intro o p q _ h; simp [endL] at h
  | cons c cs ih =>
    intro o p q ho h
    simp only [endL] at h
    by_cases h48 : c = 48
    · subst h48
      rw [if_pos rfl] at h
      by_cases h1 : o = 1
      · subst h1
        rw [if_pos rfl] at h
        exact ⟨[.nil], rfl, cs, by simp [Tr.enc], by simp [Tr.enc]; simpa using h.symm⟩
      · rw [if_neg h1] at h
        obtain ⟨ts, hl, r, e, hq⟩ := ih _ _ _ (by omega) h
        refine ⟨.nil :: ts, by simp; omega, r, by simp [Tr.enc, e], ?_⟩
        rw [List.flatMap_cons, List.length_append]
        show q = p + (1 + _)
        omega
    · rw [if_neg h48] at h
      by_cases h49 : c = 49
      · subst h49
        rw [if_pos rfl] at h
        obtain ⟨ts, hl, r, e, hq⟩ := ih _ _ _ (by omega) h
        match ts, hl with
        | a :: b :: ts, hl =>
          refine ⟨.cons a b :: ts, by simp at hl ⊢; omega, r, by simp [Tr.enc, e], ?_⟩
          rw [List.flatMap_cons, List.flatMap_cons, List.length_append, List.length_append] at hq
          rw [List.flatMap_cons, List.length_append]
          simp only [Tr.enc, List.length_cons, List.length_append]
          omega
        | [a], hl => simp at hl; omega
        | [], hl => simp at hl
      · rw [if_neg h49] at h; cases h
theorem endL_some {l : List UInt8} {p q : Nat} (h : endL l 1 p = some q) : ∃ a r, IsT a ∧ l = a ++ r ∧ q = p + a.length := by
  obtain ⟨ts, hl, r, e, hq⟩ := endL_forest l 1 p q (Nat.le_refl _) h
  match ts, hl with
  | [t], _ => exact ⟨t.enc, r, ⟨t, rfl⟩, by simpa using e, by simpa using hq⟩
theorem isT_iff {l : List UInt8} : IsT l ↔ endL l 1 0 = some l.length := by
  constructor
  · intro h
    have := endL_tree h [] 0
    simpa using this
  · intro h
    obtain ⟨a, r, ha, e, hq⟩ := endL_some h
    have : r = [] := by
      have := congrArg List.length e
      simp at this
      exact List.length_eq_zero_iff.1 (by omega)
    subst this
    simpa [e] using ha
def num : Nat → List UInt8
  | 0 => [48]
  | n + 1 => 49 :: 48 :: num n
theorem isT_num : ∀ n, IsT (num n)
  | 0 => isT_nil
  | n + 1 => isT_cons (a := [48]) isT_nil (isT_num n)
theorem num_length : ∀ n, (num n).length = 2 * n + 1
  | 0 => rfl
  | n + 1 => by simp [num, num_length n]; omega
def lst : List (List UInt8) → List UInt8
  | [] => [48]
  | s :: l => 49 :: (s ++ lst l)
theorem isT_lst : ∀ l : List (List UInt8), (∀ s ∈ l, IsT s) → IsT (lst l)
  | [], _ => isT_nil
  | s :: l, h => isT_cons (h s (by simp)) (isT_lst l (fun x hx => h x (by simp [hx])))
end Go.Proofs.YtpnmmpfidiegcaaGreatDoor.Plain
end
section
namespace Go.Proofs.YtpnmmpfidiegcaaGreatDoor.Plain
def Tr.size : Tr → Nat
  | .nil => 1
  | .cons a b => 1 + a.size + b.size
def Tr.hd : Tr → Tr
  | .nil => .nil
  | .cons a _ => a
def Tr.tl : Tr → Tr
  | .nil => .nil
  | .cons _ b => b
def Tr.isNil : Tr → Bool
  | .nil => true
  | .cons _ _ => false
theorem Tr.enc_length : ∀ t : Tr, t.enc.length = t.size
  | .nil => rfl
  | .cons a b => by simp [Tr.enc, Tr.size, enc_length a, enc_length b]; omega
theorem Tr.size_pos : ∀ t : Tr, 1 ≤ t.size
  | .nil => Nat.le_refl _
  | .cons a b => by simp [Tr.size]; omega
def stk : List UInt8 → List Tr
  | [] => []
  | c :: l => if c = 48 then .nil :: stk l else match stk l with
    | a :: b :: s => .cons a b :: s
    | _ => []
theorem stk_48 (l : List UInt8) : stk (48 :: l) = .nil :: stk l := by rw [stk, if_pos rfl]
theorem stk_49 {l : List UInt8} {a b : Tr} {s : List Tr} (h : stk l = a :: b :: s) : stk (49 :: l) = .cons a b :: s := by rw [stk, if_neg (by decide), h]
def dec (l : List UInt8) : Tr := (stk l).headD .nil
theorem stk_enc : ∀ (t : Tr) (r : List UInt8), stk (t.enc ++ r) = t :: stk r
  | .nil, r => by simp [Tr.enc, stk]
  | .cons a b, r => by
    have : stk ((Tr.cons a b).enc ++ r) = stk (49 :: (a.enc ++ (b.enc ++ r))) := by simp [Tr.enc]
    rw [this, stk, if_neg (by decide), stk_enc a, stk_enc b]
theorem dec_enc (t : Tr) : dec t.enc = t := by
  have := stk_enc t []
  rw [List.append_nil] at this
  rw [dec, this]; rfl
theorem enc_dec {l : List UInt8} (h : IsT l) : (dec l).enc = l := by
  obtain ⟨t, rfl⟩ := h
  rw [dec_enc]
def Good : List UInt8 → Prop
  | [] => True
  | c :: l => (c = 48 ∨ c = 49 ∧ 2 ≤ (stk l).length) ∧ Good l
theorem good_enc : ∀ (t : Tr) (r : List UInt8), Good r → Good (t.enc ++ r)
  | .nil, r, h => ⟨.inl rfl, h⟩
  | .cons a b, r, h => by
    have e : (Tr.cons a b).enc ++ r = 49 :: (a.enc ++ (b.enc ++ r)) := by simp [Tr.enc]
    rw [e]
    exact ⟨.inr ⟨rfl, by rw [stk_enc, stk_enc]; simp⟩, good_enc a _ (good_enc b _ h)⟩
theorem good_isT {l : List UInt8} (h : IsT l) : Good l := by
  obtain ⟨t, rfl⟩ := h
  have := good_enc t [] trivial
  rwa [List.append_nil] at this
theorem good_drop : ∀ (l : List UInt8) (i : Nat) (h : i < l.length), Good l → (l[i] = 48 ∨ l[i] = 49 ∧ 2 ≤ (stk (l.drop (i + 1))).length)
  | c :: l, 0, _, g => g.1
  | c :: l, i + 1, h, g => good_drop l i (by simpa using h) g.2
theorem stk_isT {l : List UInt8} (h : IsT l) : stk l = [dec l] := by
  obtain ⟨t, rfl⟩ := h
  have := stk_enc t []
  rw [List.append_nil] at this
  rw [dec_enc, this]; rfl
theorem stk_size : ∀ l : List UInt8, ((stk l).map Tr.size).sum ≤ l.length
  | [] => Nat.le_refl _
  | c :: l => by
    have ih := stk_size l
    rw [stk]
    split
    · simp [Tr.size]; omega
    · split
      · rename_i a b s e
        rw [e] at ih
        simp [Tr.size] at ih ⊢; omega
      · simp
end Go.Proofs.YtpnmmpfidiegcaaGreatDoor.Plain
end
section
namespace Go.Proofs.YtpnmmpfidiegcaaGreatDoor.C
open Go.RowKit Go.Proofs.YtpnmmpfidiegcaaGreatDoorW.PrintWords Go.Proofs.YtpnmmpfidiegcaaGreatDoorW.PrintLast Go.Proofs.YtpnmmpfidiegcaaGreatDoorW.PrintMore
open Go.Proofs.YtpnmmpfidiegcaaGreatDoor.Plain (Tr)
set_option linter.unusedVariables false
set_option linter.unusedSimpArgs false
def Nd (w : World) : Tr → Value → Prop
  | .nil, v => v = .pointer none
  | .cons a b, v => ∃ g va vb, v = .pointer (some ⟨g, 0, none⟩) ∧ w.heap[g]? = some (.cells #[va, vb, .int .i64 ((1 + a.size + b.size : Nat) : Int)] 59 (0, 0)) ∧ Nd w a va ∧ Nd w b vb
def NK (w w' : World) : Prop := ∀ (g : Nat) (cs : Array Value), w.heap[g]? = some (.cells cs 59 (0, 0)) → w'.heap[g]? = some (.cells cs 59 (0, 0))
theorem NK.refl (w : World) : NK w w := fun _ _ h => h
theorem NK.trans {a b c : World} (h : NK a b) (k : NK b c) : NK a c := fun g cs e => k g cs (h g cs e)
theorem NK.below {w w' : World} (h : Below w.heap.size w w') : NK w w' := fun g cs e => (h.block g (blk_lt e)).trans e
theorem NK.alloc (w : World) (o : Obj) : NK w (w.alloc o) := NK.below (below_alloc (Below.refl _ _) o)
theorem NK.drew (w : World) : NK w w.drew := fun _ _ h => h
theorem NK.grown {w w' : World} {base n size e : Nat} {v : Value} {xs : List Value} (h : w.grownBy w' v.ownBlock) (ho : w.ownsRow base e size v n xs) (hne : e ≠ 59) : NK w w' := by
  intro g cs hg
  refine blk_grown hg h fun hk => ?_
  obtain ⟨cells, hc⟩ := own_typed ho g hk.symm
  rw [hg] at hc
  injection hc with hc
  injection hc with _ ht
  exact hne ht.symm
theorem NK.set {w : World} {g t : Nat} {cs : Array Value} (hg : w.heap[g]? = some (.cells cs t (0, 0))) (hne : t ≠ 59) (i : Nat) (u : Value) : NK w (w.setCell ⟨g, i, none⟩ u) := by
  intro g' cs' h'
  refine blk_far h' (fun he => ?_) u
  subst he
  rw [hg] at h'
  injection h' with h'
  injection h' with _ ht
  exact hne ht
theorem Nd.keep {w w' : World} (h : NK w w') : ∀ (t : Tr) (v : Value), Nd w t v → Nd w' t v
  | .nil, _, e => e
  | .cons a b, v, ⟨g, va, vb, e, hg, ha, hb⟩ => ⟨g, va, vb, e, h g _ hg, keep h a va ha, keep h b vb hb⟩
theorem Nd.one : ∀ {w : World} {t : Tr} {v : Value}, Nd w t v → v.oneCell' = true
  | _, .nil, _, h => by rw [show _ = _ from h]; rfl
  | _, .cons a b, _, ⟨g, va, vb, e, _⟩ => by rw [e]; rfl
theorem Nd.same {w : World} : ∀ {t u : Tr} {v : Value}, Nd w t v → Nd w u v → t = u
  | .nil, .nil, _, _, _ => rfl
  | .nil, .cons _ _, v, h, ⟨_, _, _, e, _⟩ => by rw [show v = _ from h] at e; cases e
  | .cons _ _, .nil, v, ⟨_, _, _, e, _⟩, h => by rw [show v = _ from h] at e; cases e
  | .cons a b, .cons c d, v, ⟨g, va, vb, e, hg, ha, hb⟩, ⟨g', vc, vd, e', hg', hc, hd⟩ => by
    rw [e] at e'
    injection e' with e'
    injection e' with e'
    injection e' with e'
    subst e'
    rw [hg] at hg'
    injection hg' with hg'
    injection hg' with hg'
    injection hg' with hg'
    injection hg' with h1 hg'
    injection hg' with h2 hg'
    subst h1 h2
    rw [Nd.same ha hc, Nd.same hb hd]
theorem Nd.ptr {w : World} {t : Tr} {v : Value} (h : Nd w t v) : ∃ p, v = .pointer p := by
  cases t with
  | nil => exact ⟨_, h⟩
  | cons a b => obtain ⟨g, va, vb, rfl, _⟩ := h; exact ⟨_, rfl⟩
set_option maxHeartbeats 1000000 in
theorem Size_calls (t : Tr) (v : Value) (w : World) (h : Nd w t v) : Calls Tryz.prog 21 #[v] w fun e w' => e = .returned (.int .i64 t.size) ∧ w = w' := by
  cases t with
  | nil =>
    obtain rfl : v = .pointer none := h
    go_enter Tryz.func21, Tryz.ntmps21
    go_wp2
    go_ret
    exact ⟨rfl, rfl⟩
  | cons a b =>
    obtain ⟨g, va, vb, rfl, hg, _, _⟩ := h
    have c2 := (blk_cell hg 2).trans rfl
    clear hg
    go_enter Tryz.func21, Tryz.ntmps21
    go_wp2
    go_ret
    exact ⟨rfl, rfl⟩
set_option maxHeartbeats 1000000 in
theorem Cons_calls (a b : Tr) (va vb : Value) (w : World) (ha : Nd w a va) (hb : Nd w b vb) (za : a.size ≤ 1000000000000) (zb : b.size ≤ 1000000000000) :
    Calls Tryz.prog 12 #[va, vb] w fun e w' => ∃ u, e = .returned u ∧ Nd w' (.cons a b) u ∧ Below w.heap.size w w' := by
  obtain ⟨pa, rfl⟩ := Nd.ptr ha
  obtain ⟨pb, rfl⟩ := Nd.ptr hb
  have HA := Aside0.mk ha
  have HB := Aside0.mk hb
  clear ha hb
  go_enter Tryz.func12, Tryz.ntmps12
  go_wp2_with fail
  refine (Size_calls a (.pointer pa) _ HA.out).mono ?_
  rintro e w' ⟨rfl, rfl⟩
  go_wp2_with fail
  refine (Size_calls b (.pointer pb) _ HB.out).mono ?_
  rintro e w' ⟨rfl, rfl⟩
  go_wp2
  go_ret
  refine ⟨_, rfl, ⟨_, .pointer pa, .pointer pb, rfl, ?_, Nd.keep (NK.alloc _ _) _ _ HA.out, Nd.keep (NK.alloc _ _) _ _ HB.out⟩, (Below.refl _ _).alloc (Nat.le_refl _) _⟩
  rw [blk_new, show ((1 + a.size + b.size : Nat) : Int) = 1 + (a.size : Int) + b.size from by omega]
end Go.Proofs.YtpnmmpfidiegcaaGreatDoor.C
end
section
namespace Go.Proofs.YtpnmmpfidiegcaaGreatDoor.Plain
theorem good_cat : ∀ l : List UInt8, Good l → (stk l).flatMap Tr.enc = l
  | [], _ => rfl
  | c :: l, h => by
    have ih := good_cat l h.2
    rcases h.1 with rfl | ⟨rfl, h2⟩
    · rw [stk_48, List.flatMap_cons, ih]; rfl
    · obtain ⟨a, b, s, e⟩ : ∃ a b s, stk l = a :: b :: s := by
        cases h1 : stk l with
        | nil => rw [h1] at h2; simp at h2
        | cons a l' => cases l' with
          | nil => rw [h1] at h2; simp at h2
          | cons b s => exact ⟨a, b, s, rfl⟩
      rw [e] at ih
      rw [stk_49 e, List.flatMap_cons]
      rw [List.flatMap_cons, List.flatMap_cons] at ih
      simp only [Tr.enc, List.cons_append, List.append_assoc]
      rw [ih]
theorem isT_stk {l : List UInt8} : IsT l ↔ Good l ∧ (stk l).length = 1 := by
  constructor
  · intro h
    exact ⟨good_isT h, by rw [stk_isT h]; rfl⟩
  · rintro ⟨h, h1⟩
    obtain ⟨t, e⟩ := List.length_eq_one_iff.1 h1
    have := good_cat l h
    rw [e, List.flatMap_cons] at this
    exact ⟨t, by simpa using this.symm⟩
end Go.Proofs.YtpnmmpfidiegcaaGreatDoor.Plain
end
section
namespace Go.Proofs.YtpnmmpfidiegcaaGreatDoor.C
open Go.RowKit Go.Proofs.YtpnmmpfidiegcaaGreatDoorW.PrintWords Go.Proofs.YtpnmmpfidiegcaaGreatDoorW.PrintLast Go.Proofs.YtpnmmpfidiegcaaGreatDoorW.PrintMore
open Go.Proofs.YtpnmmpfidiegcaaGreatDoor.Plain (Tr stk Good good_drop good_isT IsT dec stk_isT stk_size stk_48 stk_49 isT_stk)
set_option linter.unusedVariables false
set_option linter.unusedSimpArgs false
def Nds (w : World) : List Tr → List Value → Prop
  | [], xs => xs = []
  | t :: ts, xs => ∃ v ys, xs = v :: ys ∧ Nd w t v ∧ Nds w ts ys
theorem Nds.keep {w w' : World} (h : NK w w') : ∀ (ts : List Tr) (xs : List Value), Nds w ts xs → Nds w' ts xs
  | [], _, e => e
  | t :: ts, _, ⟨v, ys, e, a, b⟩ => ⟨v, ys, e, Nd.keep h t v a, keep h ts ys b⟩
theorem Nds.length {w : World} : ∀ {ts : List Tr} {xs : List Value}, Nds w ts xs → xs.length = ts.length
  | [], _, e => by rw [show _ = _ from e]; rfl
  | t :: ts, _, ⟨v, ys, e, a, b⟩ => by rw [e, List.length_cons, List.length_cons, Nds.length b]
theorem Nds.at_ {w : World} : ∀ {ts : List Tr} {xs : List Value} (i : Nat) (h : i < ts.length), Nds w ts xs → ∃ v, xs[i]? = some v ∧ Nd w ts[i] v
  | t :: ts, _, 0, _, ⟨v, ys, e, a, b⟩ => ⟨v, by rw [e]; rfl, a⟩
  | t :: ts, _, i + 1, h, ⟨v, ys, e, a, b⟩ => by
    obtain ⟨u, hu, hn⟩ := Nds.at_ i (by simpa using h) b
    exact ⟨u, by rw [e]; exact hu, hn⟩
theorem Nds.snoc {w : World} {t : Tr} {v : Value} (hv : Nd w t v) : ∀ {ts : List Tr} {xs : List Value}, Nds w ts xs → Nds w (ts ++ [t]) (xs ++ [v])
  | [], _, e => by rw [show _ = _ from e]; exact ⟨v, [], rfl, hv, rfl⟩
  | _ :: _, _, ⟨u, ys, e, a, b⟩ => ⟨u, ys ++ [v], by rw [e]; rfl, a, Nds.snoc hv b⟩
theorem Nds.append {w : World} {us : List Tr} {zs : List Value} (k : Nds w us zs) : ∀ {ts : List Tr} {xs : List Value}, Nds w ts xs → Nds w (ts ++ us) (xs ++ zs)
  | [], _, e => by rw [show _ = _ from e]; exact k
  | _ :: _, _, ⟨u, ys, e, a, b⟩ => ⟨u, ys ++ zs, by rw [e]; rfl, a, Nds.append k b⟩
theorem Nds.take {w : World} : ∀ {ts : List Tr} {xs : List Value} (n : Nat), Nds w ts xs → Nds w (ts.take n) (xs.take n)
  | _, _, 0, _ => rfl
  | [], _, n + 1, e => by rw [show _ = _ from e]; rfl
  | _ :: _, _, n + 1, ⟨u, ys, e, a, b⟩ => ⟨u, ys.take n, by rw [e]; rfl, a, Nds.take n b⟩
theorem Nds.last {w : World} {b : Tr} : ∀ {ts : List Tr} {xs : List Value}, Nds w (ts ++ [b]) xs → ∃ ys v, xs = ys ++ [v] ∧ Nds w ts ys ∧ Nd w b v
  | [], _, ⟨v, ys, e, a, b⟩ => ⟨[], v, by rw [e, show ys = [] from b]; rfl, rfl, a⟩
  | _ :: _, _, ⟨u, ys, e, a, b⟩ => by
    obtain ⟨zs, v, e1, h1, h2⟩ := Nds.last b
    exact ⟨u :: zs, v, by rw [e, e1]; rfl, ⟨u, zs, rfl, a, h1⟩, h2⟩
theorem Nds.last2 {w : World} {ts st : List Tr} {a b : Tr} {xs : List Value} (h : Nds w ts xs) (e : ts.reverse = a :: b :: st) : ∃ ys va vb, xs = ys ++ [vb, va] ∧ Nds w st.reverse ys ∧ Nd w a va ∧ Nd w b vb := by
  have e1 : ts = (st.reverse ++ [b]) ++ [a] := by rw [← List.reverse_reverse ts, e]; simp
  rw [e1] at h
  obtain ⟨ys, va, rfl, h1, h2⟩ := Nds.last h
  obtain ⟨zs, vb, rfl, h3, h4⟩ := Nds.last h1
  exact ⟨zs, va, vb, by simp, h3, h2, h4⟩
theorem infoNp : (Tryz.prog.info? 23).map (fun i => (i.zero, i.size, i.bytes)) = some (some (.pointer none), 1, 8) := by kernel_rfl
def GrowOk (s : ByteArray) (most : Int) : Prop := (s.size : Int) ≤ most ∧ IsT s.data.toList
def Grew (W : World) (s : ByteArray) (most : Int) (e : Ending) (w' : World) : Prop :=
  ∃ v b, e = .returned (.tuple #[v, .bool b]) ∧ Below W.heap.size W w' ∧ ((b = true ∧ GrowOk s most ∧ Nd w' (dec s.data.toList) v) ∨ (b = false ∧ ¬ GrowOk s most ∧ v = .pointer none))
theorem Grew.no {W w' : World} {s : ByteArray} {most : Int} (hb : Below W.heap.size W w') (h : ¬ GrowOk s most) : Grew W s most (.returned (.tuple #[.pointer none, .bool false])) w' := ⟨_, _, rfl, hb, .inr ⟨rfl, h, rfl⟩⟩
theorem Grew.yes {W w' : World} {s : ByteArray} {most : Int} {v : Value} (hb : Below W.heap.size W w') (h : GrowOk s most) (hn : Nd w' (dec s.data.toList) v) : Grew W s most (.returned (.tuple #[v, .bool true])) w' := ⟨_, _, rfl, hb, .inl ⟨rfl, h, hn⟩⟩
set_option maxHeartbeats 4000000 in
set_option maxRecDepth 100000 in
theorem grow_go (s : ByteArray) (most : Int) (w : World) (hz : (s.size : Int) ≤ most → s.size ≤ 100000000) :
    Calls Tryz.prog 6 #[.string s, .int .i64 most] w (Grew w s most) := by
  by_cases hlong : most < (s.size : Int)
  · have t1 : decide (most < (s.size : Int)) = true := decide_eq_true hlong
    have HNO : Aside0 (¬ GrowOk s most) := ⟨fun h => by have := h.1; omega⟩
    clear hz hlong
    go_enter Tryz.func6, Tryz.ntmps6
    go_wp2
    go_ret2
    exact Grew.no (Below.refl _ _) HNO.out
  have t0 : decide (most < (s.size : Int)) = false := decide_eq_false hlong
  have hz := hz (by omega)
  have HM : Aside0 ((s.size : Int) ≤ most) := ⟨by omega⟩
  have hl : s.data.toList.length = s.size := Array.length_toList
  have HL := Aside0.mk hl
  clear hl hlong
  go_enter Tryz.func6, Tryz.ntmps6
  go_wp2
  go_loopg [6, 7] (s.size + 1) (fun kq v3 v4 wr => ∃ (i : Int) (ts : List Tr) (xs : List Value), v4 = .int .i64 i ∧ Aside0 (-1 ≤ i ∧ i + 1 ≤ s.size ∧ (i + 1).toNat < kq ∧ xs.length + (i + 1).toNat ≤ s.size) ∧ Aside0 (ts.reverse = stk (s.data.toList.drop (i + 1).toNat) ∧ Plain.Good (s.data.toList.drop (i + 1).toNat)) ∧ Aside0 (Nds wr ts xs) ∧ Aside0 (wr.ownsRow w.heap.size 23 1 v3 xs.length xs) ∧ Aside0 (Below w.heap.size w wr))
  case atStart => exact ⟨_, [], [], rfl, ⟨by omega, by omega, by omega, by simp⟩, ⟨by rw [show ((s.size : Int) - 1 + 1).toNat = s.size from by omega, ← HL.out, List.drop_length]; exact ⟨rfl, trivial⟩⟩, ⟨rfl⟩, ⟨own_nil _ _ _ _⟩, ⟨Below.refl _ _⟩⟩
  case round =>
    obtain ⟨i, ts, xs, rfl, HI, HT, HN, HO, HB⟩ := hrel
    by_cases h0 : 0 ≤ i
    · obtain ⟨m, rfl⟩ := Int.eq_ofNat_of_zero_le h0
      have hm : m < s.size := by have := HI.out; omega
      have hd0 : s.data.toList.drop m = s.data.toList[m]'(by rw [HL.out]; exact hm) :: s.data.toList.drop (m + 1) := List.drop_eq_getElem_cons _
      have hcc : (s.data.toList[m]'(by rw [HL.out]; exact hm)) = s[m] := rfl
      rw [hcc] at hd0
      have hxl : xs.length = ts.length := Nds.length HN.out
      rw [show ((m : Int) + 1).toNat = m + 1 from by omega] at HT
      have hsl : (stk (s.data.toList.drop (m + 1))).length = xs.length := by rw [← HT.out.1, List.length_reverse, hxl]
      have hgd := HT.out.2
      have hno : ¬ (s[m] = 48 ∨ s[m] = 49 ∧ 2 ≤ xs.length) → ¬ GrowOk s most := fun h hok => by
        have := good_drop s.data.toList m (by rw [HL.out]; exact hm) (good_isT hok.2)
        rw [hcc, hsl] at this
        exact h this
      have HNO := Aside0.mk hno
      have hgm : (s[m] = 48 ∨ s[m] = 49 ∧ 2 ≤ xs.length) → Plain.Good (s.data.toList.drop m) := fun h => by
        rw [hd0]
        exact ⟨by rw [hsl]; exact h, hgd⟩
      have HGM := Aside0.mk hgm
      clear hcc hno hgm hgd
      obtain ⟨k2, rfl⟩ : ∃ k2, gk = k2 + 1 := ⟨gk - 1, by have := HI.out; omega⟩
      by_cases h48 : s[m] = 48
      · have t1 : ((s[m].toNat : Int) == 48) = true := by rw [h48]; rfl
        have HST : Aside0 (stk (s.data.toList.drop m) = .nil :: stk (s.data.toList.drop (m + 1)) ∧ Plain.Good (s.data.toList.drop m)) := ⟨by rw [hd0, h48, stk_48], HGM.out (.inl h48)⟩
        clear hd0 h48 hsl hxl HGM HNO
        obtain ⟨A, c, rfl⟩ := own_slice HO.out
        go_wp2_with (at_builtin; refine print_append_cells w.heap.size rfl (.tmp 24) (.tmp 25) 43 23 (.pointer none) 1 8 rfl Tryz.underlying43 infoNp rfl (by omega) (by omega) _ xs.length xs [.pointer none] rfl rfl rfl (by intro u hu; simp at hu; rw [hu]; rfl) HO.out HB.out HB.out.size ?c1 ?_)
        case c1 => have := HI.out; omega
        intro v1 w1 ho hb hgr _
        have HO1 := Aside0.mk ho
        have HB1 := Aside0.mk hb
        have HK := Aside0.mk (NK.grown hgr HO.out (by decide))
        clear ho hb hgr
        go_wp2
        go_roundg k2
        case measure => omega
        case rel =>
          have hi := HI.out
          refine ⟨(m : Int) - 1, ts ++ [.nil], xs ++ [.pointer none], rfl, ⟨by omega, by omega, by omega, by rw [List.length_append, List.length_singleton]; omega⟩, ⟨?_⟩, ⟨Nds.snoc (t := .nil) rfl (Nds.keep HK.out _ _ HN.out)⟩, ⟨by rw [List.length_append, List.length_singleton]; exact HO1.out⟩, HB1⟩
          rw [List.reverse_append, show ((m : Int) - 1 + 1).toNat = m from by omega]
          refine ⟨?_, HST.out.2⟩
          rw [HST.out.1, ← HT.out.1]; rfl
      · have t1 : ((s[m].toNat : Int) == 48) = false := by
          refine beq_eq_false_iff_ne.2 fun e => h48 ?_
          exact UInt8.toNat_inj.1 (by show s[m].toNat = 48; omega)
        by_cases h49 : s[m] = 49
        · have t2 : ((s[m].toNat : Int) == 49) = true := by rw [h49]; rfl
          by_cases h2 : 2 ≤ xs.length
          · obtain ⟨a, b, st, hst⟩ : ∃ a b st, stk (s.data.toList.drop (m + 1)) = a :: b :: st := by
              cases h1 : stk (s.data.toList.drop (m + 1)) with
              | nil => rw [h1] at hsl; simp at hsl; omega
              | cons a l => cases l with
                | nil => rw [h1] at hsl; simp at hsl; omega
                | cons b l => exact ⟨a, b, l, rfl⟩
            have HST : Aside0 (stk (s.data.toList.drop m) = .cons a b :: st ∧ Plain.Good (s.data.toList.drop m)) := ⟨by rw [hd0, h49, stk_49 hst], HGM.out (.inr ⟨h49, h2⟩)⟩
            have hsz := stk_size (s.data.toList.drop (m + 1))
            rw [hst, List.length_drop, HL.out, List.map_cons, List.map_cons, List.sum_cons, List.sum_cons] at hsz
            obtain ⟨ys, va, vb, rfl, hys, hva, hvb⟩ := Nds.last2 HN.out (HT.out.1.trans hst)
            have za : a.size ≤ 1000000000000 := by omega
            have zb : b.size ≤ 1000000000000 := by omega
            have HY := Aside0.mk hys
            have HVA := Aside0.mk hva
            have HVB := Aside0.mk hvb
            obtain ⟨nn, hnn⟩ : ∃ nn, nn = ys.length := ⟨_, rfl⟩
            have hlen : (ys ++ [vb, va]).length = nn + 2 := by simp [hnn]
            rw [hlen] at HO
            obtain ⟨g, cap, rfl, hgb, hgl⟩ := HO.out.form (by omega)
            have ca := HO.out.cells (g := g) rfl (nn + 1) va (by simp [hnn])
            have cb := HO.out.cells (g := g) rfl nn vb (by simp [hnn])
            rw [add_plain] at ca cb
            have hcap : nn + 2 ≤ cap := own_le HO.out
            have hcap1 : (nn : Int) ≤ (cap : Int) := by omega
            have hnl : nn ≤ 1000000000 := by have := HI.out; rw [hlen] at this; omega
            have HNN := Aside0.mk hnn
            have t3 : decide (1 < (nn : Int) + 2) = true := decide_eq_true (by omega)
            clear hnn hlen hsz hst h49 hd0 h48 hys hva hvb HT HN HNO HGM hsl hxl h2
            have e1 : IntKind.i64.wrap ((nn : Int) + 2 - 1) = (nn : Int) + 1 := by rw [i64_w]; unfold wrap64; omega
            have e2 : IntKind.i64.wrap (nn : Int) = (nn : Int) := by rw [i64_w]; unfold wrap64; omega
            have e3 : 0 ≤ (nn : Int) + 1 := by omega
            have e4 : (nn : Int) + 1 < (nn : Int) + 2 := by omega
            have e5 : ((nn : Int) + 1).toNat = nn + 1 := by omega
            have e6 : (nn : Int) < (nn : Int) + 2 := by omega
            go_wp2
            have HO2 : Aside0 (wr.ownsRow w.heap.size 23 1 (.slice (some ⟨g, 0, none⟩) nn cap) nn ys) := ⟨by
              have := own_take (m := nn) HO.out (by omega)
              rw [Nat.mul_one, List.take_append_of_le_length (by have := HNN.out; omega), List.take_of_length_le (by have := HNN.out; omega)] at this
              exact this⟩
            clear HO
            obtain ⟨i0, hi, hz0, hz1, hz2⟩ := info_parts infoNp
            have HM1 := Aside0.mk (show nn + 1 ≤ maxLen by unfold maxLen; omega)
            have HM2 := Aside0.mk (show (nn + 1) * 8 ≤ 140737488355328 by omega)
            go_region_law (first | (refine step_append_lies _ (by rfl) _ _ _ (by rfl) w.heap.size 23 i0 _ 1 8 Tryz.underlying43 hi hz0 hz1 hz2 rfl (by omega) _ nn ys (by rfl) ((pw_own_below HO2.out (Below.trans (below_drew (Below.refl wr.heap.size wr)) hbu)).alloc _) ⟨w1.heap.size, 0, none⟩ 1 1 [.pointer pu] (by rfl) (by rfl) (World.news_of_block (cs := #[.pointer pu]) (t := 23) (fr := (0, 0)) (heap_alloc_new w1 _)) (by simp [Value.oneCell']) (by omega) HM1.out HM2.out (by have := HB.out.size; have := hbu.size; simp at this ⊢; omega) (w1.heap.size + 1) (by simp) ?_; intro gg cap3 w2 hown1 hgrow1 hat1 hlt1) | (go_simp; go_at_call 12; refine (Cons_calls a b va vb _ (Nd.keep (NK.drew _) _ _ HVA.out) (Nd.keep (NK.drew _) _ _ HVB.out) za zb).mono ?_; rintro e w1 ⟨u, rfl, hnu, hbu⟩; obtain ⟨pu, rfl⟩ := Nd.ptr hnu))
            all_goals
              have HBU := Aside0.mk (Below.trans (below_drew (Below.refl wr.heap.size wr)) hbu)
              have HB1 := Aside0.mk (below_then HB.out HB.out.size HBU.out)
              have HU := Aside0.mk hnu
              have HO3 := Aside0.mk hown1
              have HOA := Aside0.mk ((pw_own_below HO2.out HBU.out).alloc (.cells #[.pointer pu] 23))
              have HB3 : Aside0 (Below w.heap.size w w2) := ⟨(HB1.out.alloc HB1.out.size _).grown hgrow1 (by have := HB1.out.size; simp; omega) (own_base HO2.out)⟩
              have HK : Aside0 (NK w1 w2) := ⟨NK.trans (NK.alloc w1 (.cells #[.pointer pu] 23)) (NK.grown hgrow1 HOA.out (by decide))⟩
              have HK1 : Aside0 (NK wr w1) := ⟨NK.below HBU.out⟩
              clear hown1 hgrow1 hat1 hlt1 hbu hnu HOA e1 e2 e3 e4 e5 e6 ca cb
              go_wp2
              go_roundg k2
              case measure => omega
              case rel =>
                have hi := HI.out
                rw [List.length_append] at hi
                have hi2 : [vb, va].length = 2 := rfl
                refine ⟨(m : Int) - 1, st.reverse ++ [.cons a b], ys ++ [.pointer pu], rfl, ⟨by omega, by omega, by omega, by rw [List.length_append, List.length_singleton]; omega⟩, ⟨?_⟩, ⟨Nds.snoc (Nd.keep HK.out _ _ HU.out) (Nds.keep (NK.trans HK1.out HK.out) _ _ HY.out)⟩, ⟨by rw [List.length_append, List.length_singleton, ← HNN.out]; exact HO3.out⟩, HB3⟩
                rw [List.reverse_append, show ((m : Int) - 1 + 1).toNat = m from by omega]
                refine ⟨?_, HST.out.2⟩
                rw [HST.out.1, List.reverse_reverse]; rfl
          · have t3 : decide (1 < (xs.length : Int)) = false := decide_eq_false (by omega)
            have HF := Aside0.mk (HNO.out (fun h => h.elim h48 (fun h => h2 h.2)))
            clear HNO HGM hd0 h48 h49 h2 hsl hxl
            obtain ⟨A, c, rfl⟩ := own_slice HO.out
            go_wp2
            go_ret2
            exact Grew.no HB.out HF.out
        · have t2 : ((s[m].toNat : Int) == 49) = false := by
            refine beq_eq_false_iff_ne.2 fun e => h49 ?_
            exact UInt8.toNat_inj.1 (by show s[m].toNat = 49; omega)
          have HF := Aside0.mk (HNO.out (fun h => h.elim h48 (fun h => h49 h.1)))
          clear HNO HGM hd0 h48 h49 hsl hxl
          obtain ⟨A, c, rfl⟩ := own_slice HO.out
          go_wp2
          go_ret2
          exact Grew.no HB.out HF.out
    · have hi := HI.out
      obtain rfl : i = -1 := by omega
      have ht := HT.out
      rw [show ((-1 : Int) + 1).toNat = 0 from rfl, List.drop_zero] at ht
      have hxl : xs.length = ts.length := Nds.length HN.out
      have hsl : (stk s.data.toList).length = xs.length := by rw [← ht.1, List.length_reverse, hxl]
      by_cases h1 : xs.length = 1
      · have HIT : Aside0 (GrowOk s most) := ⟨HM.out, isT_stk.2 ⟨ht.2, by rw [hsl]; exact h1⟩⟩
        have ht2 := ht.1
        rw [stk_isT HIT.out.2] at ht2
        obtain rfl : ts = [dec s.data.toList] := by rw [← List.reverse_reverse ts, ht2]; rfl
        obtain ⟨v, ys, rfl, hv1, hys⟩ := HN.out
        obtain rfl : ys = [] := hys
        obtain ⟨g, cap, rfl, hgb, hgl⟩ := HO.out.form (by simp)
        have ca := HO.out.cells (g := g) rfl 0 v rfl
        rw [add_plain] at ca
        have HV := Aside0.mk hv1
        clear hv1 ht ht2 hi HO HT HN hxl hsl h1
        go_wp2
        go_ret2
        exact Grew.yes HB.out HIT.out HV.out
      · have HF : Aside0 (¬ GrowOk s most) := ⟨fun h => h1 (by rw [← hsl]; exact (isT_stk.1 h.2).2)⟩
        have t1 : ((xs.length : Int) != 1) = true := bne_iff_ne.2 (by omega)
        clear ht hsl hxl hi h1
        obtain ⟨A, c, rfl⟩ := own_slice HO.out
        go_wp2
        go_ret2
        exact Grew.no HB.out HF.out
theorem grow_yes (s : ByteArray) (most : Int) (w : World) (h : GrowOk s most) (hz : s.size ≤ 100000000) :
    Calls Tryz.prog 6 #[.string s, .int .i64 most] w fun e w' => ∃ v, e = .returned (.tuple #[v, .bool true]) ∧ Nd w' (dec s.data.toList) v ∧ Below w.heap.size w w' := by
  refine (grow_go s most w fun _ => hz).mono ?_
  rintro e w' ⟨v, b, rfl, hb, ⟨rfl, _, hn⟩ | ⟨_, hno, _⟩⟩
  · exact ⟨v, rfl, hn, hb⟩
  · exact absurd h hno
theorem grow_no (s : ByteArray) (most : Int) (w : World) (h : ¬ GrowOk s most) (hz : most ≤ 100000000) :
    Calls Tryz.prog 6 #[.string s, .int .i64 most] w fun e w' => e = .returned (.tuple #[.pointer none, .bool false]) ∧ Below w.heap.size w w' := by
  refine (grow_go s most w fun h => by omega).mono ?_
  rintro e w' ⟨v, b, rfl, hb, ⟨_, hy, _⟩ | ⟨rfl, _, rfl⟩⟩
  · exact absurd hy h
  · exact ⟨rfl, hb⟩
end Go.Proofs.YtpnmmpfidiegcaaGreatDoor.C
end
